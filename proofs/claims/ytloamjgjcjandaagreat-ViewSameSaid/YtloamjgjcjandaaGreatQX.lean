import Derived.Test.YtloamjgjcjandaaGreatQE
import Derived.Test.YtloamjgjcjandaaGreatPwYc
import Derived.Test.YtloamjgjcjandaaGreatQDc
set_option linter.all false
set_option maxRecDepth 100000
namespace Go.PW
abbrev Znp (x : Zg0) : Prop := (SzL 16 SzT) x.Subs
theorem Zaff {x : Zg0} (h : Zy1 x) : Znp x := (Zeo h.2.2 (fun _ h => Zatf h))
abbrev Za9 (x : Zh) : Prop := SzS x.Sub
theorem Zfa {x : Zh} (h : Zfb x) : Za9 x := (Zadg h.2.2.2.2.2.2.2.1)
abbrev Za2 (x : Zj) : Prop := SzS x.Sub ∧ Za9 x.Filter
theorem Ztb {x : Zj} (h : Zp1 x) : Za2 x := ⟨(Zadg h.2.2.2.1), (Zfa h.2.2.2.2)⟩
abbrev Zi9 (x : Zce) : Prop := Za9 x.Filter
theorem Z59 {x : Zce} (h : Zq3 x) : Zi9 x := (Zfa h.2.2)
abbrev Zha (x : Zaz) : Prop := Za9 x.Filter
theorem Zafg {x : Zaz} (h : Zy2 x) : Zha x := (Zfa h.2.2)
abbrev Zj1 (x : Zeq) : Prop := Za9 x.Filter
theorem Zag4 {x : Zeq} (h : Z1d x) : Zj1 x := (Zfa h.2.2)
abbrev Ztc (x : Zcf) : Prop := Za9 x.Filter
theorem Z9t {x : Zcf} (h : Zs7 x) : Ztc x := (Zfa h.2.2.2)
abbrev Zaa (x : Zl) : Prop := Zj1 x.Ref ∧ Ztc x.Amount ∧ SzS x.Card ∧ Za9 x.Filter ∧ (SzL 176 Za2) x.Mods
theorem Z9u {x : Zl} (h : Zs8 x) : Zaa x := ⟨(Zag4 h.2.1), (Z9t h.2.2.1), (Zadg h.2.2.2.2.2.1), (Zfa h.2.2.2.2.2.2.1), (Zeo h.2.2.2.2.2.2.2.2 (fun _ h => (Ztb h)))⟩
abbrev Zdz (x : Za3) : Prop := Za9 x.Filter
theorem Z6a {x : Za3} (h : Zq4 x) : Zdz x := (Zfa h.2.2.1)
abbrev Za1 (x : Zk) : Prop := Za9 x.Filter ∧ (SzL 176 Za2) x.Mods ∧ Zi9 x.Trigger ∧ (SzL 144 Zha) x.Specs ∧ (SzL 560 Zaa) x.Effects ∧ Zdz x.Replace
theorem Zmz {x : Zk} (h : Zi8 x) : Za1 x := ⟨(Zfa h.2.1), (Zeo h.2.2.1 (fun _ h => (Ztb h))), (Z59 h.2.2.2.2.2.1), (Zeo h.2.2.2.2.2.2.2.1 (fun _ h => (Zafg h))), (Zeo h.2.2.2.2.2.2.2.2.1 (fun _ h => (Z9u h))), (Z6a h.2.2.2.2.2.2.2.2.2)⟩
abbrev Zai (x : Zt) : Prop := SzS x.Name ∧ Znp x.Line ∧ (SzL 640 Za1) x.Abilities
theorem Zafh {x : Zt} (h : Zy3 x) : Zai x := ⟨(Zadg h.1), (Zaff h.2.2.2.2.1), (Zeo h.2.2.2.2.2.2.2.2 (fun _ h => (Zmz h)))⟩
abbrev Zf0 (x : Z0) : Prop := (SzL 8 (fun _ => True)) x.Library ∧ (SzL 8 (fun _ => True)) x.Hand ∧ (SzL 8 (fun _ => True)) x.Graveyard
theorem Z9v {x : Z0} (h : Zs9 x) : Zf0 x := ⟨(Zeo h.2.2.2.2.2.2.1 (fun _ _ => trivial)), (Zeo h.2.2.2.2.2.2.2.1 (fun _ _ => trivial)), (Zeo h.2.2.2.2.2.2.2.2 (fun _ _ => trivial))⟩
abbrev Zfx (x : Z6) : Prop := Za1 x.Ability ∧ (SzL 16 (fun _ => True)) x.Targets
theorem Zafi {x : Z6} (h : Zy4 x) : Zfx x := ⟨(Zmz h.2.2.2.2.2.2.1), (Zeo h.2.2.2.2.2.2.2.1 (fun _ _ => trivial))⟩
abbrev Zg6 (x : Zy) : Prop := Za1 x.Ability
theorem Z6b {x : Zy} (h : Zq5 x) : Zg6 x := (Zmz h.2.2.1)
abbrev Zir (x : Zab) : Prop := (SzL 8 (fun _ => True)) x.Objects ∧ (SzL 176 Za2) x.Mods
theorem Zafj {x : Zab} (h : Zy5 x) : Zir x := ⟨(Zeo h.2.2.2.2.1 (fun _ _ => trivial)), (Zeo h.2.2.2.2.2 (fun _ h => (Ztb h)))⟩
abbrev Zz (x : Za) : Prop := (SzL 152 Zf0) x.Players ∧ (SzL 128 (fun _ => True)) x.Objects ∧ (SzL 8 (fun _ => True)) x.Battlefield ∧ (SzL 8 (fun _ => True)) x.Exile ∧ (SzL 824 Zfx) x.Stack ∧ (SzL 768 Zg6) x.Waiting ∧ (SzL 80 Zir) x.Conts ∧ (SzL 8 (fun _ => True)) x.Extra
theorem Zxq {x : Za} (h : Zp2 x) : Zz x := ⟨(Zeo h.1 (fun _ h => (Z9v h))), (Zeo h.2.1 (fun _ _ => trivial)), (Zeo h.2.2.1 (fun _ _ => trivial)), (Zeo h.2.2.2.1 (fun _ _ => trivial)), (Zeo h.2.2.2.2.1 (fun _ h => (Zafi h))), (Zeo h.2.2.2.2.2.1 (fun _ h => (Z6b h))), (Zeo h.2.2.2.2.2.2.1 (fun _ h => (Zafj h))), (Zeo h.2.2.2.2.2.2.2.2.2.2.2.2.2.2.2.2.1 (fun _ _ => trivial))⟩
abbrev Zif (x : Za0) : Prop := (SzL 24 (fun _ => True)) x.Options
theorem Z9w {x : Za0} (h : Zta x) : Zif x := (Zeo h.2.2.2.2.2.2 (fun _ _ => trivial))
abbrev Zgh (x : Z8) : Prop := (SzL 176 Zai) x.Cards ∧ Zz x.State ∧ (SzL 24 (SzL 8 (fun _ => True))) x.Answers ∧ Zif x.Pending ∧ (SzL 280 Zz) x.Seen
theorem Zz7 {x : Z8} (h : Z8c x) : Zgh x := ⟨(Zeo h.1 (fun _ h => (Zafh h))), (Zxq h.2.1), (Zeo h.2.2.1 (fun _ h => (Zeo h (fun _ _ => trivial)))), (Z9w h.2.2.2.1), (Zeo h.2.2.2.2.2 (fun _ h => (Zxq h)))⟩
abbrev Zy6 (x : Zbz) : Prop := (SzL 8 (fun _ => True)) x.Graveyard
abbrev Zy7 (x : Zs) : Prop := (SzL 120 Zy6) x.Players ∧ (SzL 8 (fun _ => True)) x.Hand ∧ (SzL 128 (fun _ => True)) x.Objects ∧ (SzL 8 (fun _ => True)) x.Battlefield ∧ (SzL 8 (fun _ => True)) x.Exile ∧ (SzL 824 Zfx) x.Stack ∧ (SzL 768 Zg6) x.Waiting ∧ (SzL 80 Zir) x.Conts ∧ (SzL 8 (fun _ => True)) x.Extra ∧ Zif x.Pending
theorem Z8d (a0 : Int) : Tot (Zae0 a0) (fun r => True) := by
 unfold Zae0
 refine tZ ?_
 dsimp only [Zaf7, LT.den]
 refine tD (fun h1 => ?_) (fun h1 => ?_)
 ·exact tR trivial
 ·exact tR trivial
def Z1e : Zqm → Prop
 | .L0 v0 v3 => (SzT v0) ∧ (0 ≤ v3)
 | .L1 v0 v3 => (SzT v0) ∧ (0 ≤ v3) ∧ (v3 < (v0.length : Int)) ∧ (0 ≤ v3) ∧ (v3 < v0.length)
def Zl0 : Zqm → M6
 | .L0 v0 v3 => (1, ((v0.length : Int) - v3).toNat, 1000000, 0, 0, 0)
 | .L1 v0 v3 => (1, ((v0.length : Int) - v3).toNat, 0, 0, 0, 0)
theorem Zkh (v0 : (List UInt8)) (v3 : Int) (h : (SzT v0) ∧ (0 ≤ v3) ∧ (v3 < (v0.length : Int)) ∧ (0 ≤ v3) ∧ (v3 < v0.length)) : Tot (Zle v0 v3).den (Nx Z1e Zl0 (1, ((v0.length : Int) - v3).toNat, 0, 0, 0, 0) (fun r => True)) := by
 obtain ⟨ov0, cv3, bd2, i0, i1⟩ := h
 have lb_v0 : v0.length ≤ 562949953421312 := ov0
 dsimp only [Zle, LT.den]
 refine tD (fun h1 => ?_) (fun h1 => ?_)
 ·refine tB (tI (by omega) (by omega)) (fun x2 h3 => ?_)
  refine tE (fun h4 => ?_) (fun h4 => ?_)
  ·have q5 : -9223372036854775808 ≤ (v3 - 1) → (v3 - 1) < 9223372036854775808 → IntKind.wrap .i64 (v3 - 1) = (v3 - 1) := Zao _
   have q6 : -9223372036854775808 ≤ IntKind.wrap .i64 (v3 - 1) ∧ IntKind.wrap .i64 (v3 - 1) < 9223372036854775808 := Zap _
   refine tB (tI (by omega) (by omega)) (fun x7 h8 => ?_)
   refine tE (fun h9 => ?_) (fun h9 => ?_)
   ·exact tR trivial
   ·have q10 : -9223372036854775808 ≤ (v3 + 1) → (v3 + 1) < 9223372036854775808 → IntKind.wrap .i64 (v3 + 1) = (v3 + 1) := Zao _
    have q11 : -9223372036854775808 ≤ IntKind.wrap .i64 (v3 + 1) ∧ IntKind.wrap .i64 (v3 + 1) < 9223372036854775808 := Zap _
    exact tL ⟨ov0, cl⟩ (by unfold Zl0 lt6; dsimp only; omega)
  ·have q12 : -9223372036854775808 ≤ (v3 + 1) → (v3 + 1) < 9223372036854775808 → IntKind.wrap .i64 (v3 + 1) = (v3 + 1) := Zao _
   have q13 : -9223372036854775808 ≤ IntKind.wrap .i64 (v3 + 1) ∧ IntKind.wrap .i64 (v3 + 1) < 9223372036854775808 := Zap _
   exact tL ⟨ov0, cl⟩ (by unfold Zl0 lt6; dsimp only; omega)
 ·have q14 : -9223372036854775808 ≤ (v3 + 1) → (v3 + 1) < 9223372036854775808 → IntKind.wrap .i64 (v3 + 1) = (v3 + 1) := Zao _
  have q15 : -9223372036854775808 ≤ IntKind.wrap .i64 (v3 + 1) ∧ IntKind.wrap .i64 (v3 + 1) < 9223372036854775808 := Zap _
  exact tL ⟨ov0, cl⟩ (by unfold Zl0 lt6; dsimp only; omega)
theorem Zag5 (v0 : (List UInt8)) (v3 : Int) (h : (SzT v0) ∧ (0 ≤ v3)) : Tot (Z29 v0 v3).den (Nx Z1e Zl0 (1, ((v0.length : Int) - v3).toNat, 1000000, 0, 0, 0) (fun r => True)) := by
 obtain ⟨ov0, cv3⟩ := h
 have lb_v0 : v0.length ≤ 562949953421312 := ov0
 dsimp only [Z29, LT.den]
 have q1 : v0.length ≤ 562949953421312 := ov0
 refine tD (fun h2 => ?_) (fun h2 => ?_)
 ·refine tB (tI (by omega) (by omega)) (fun x3 h4 => ?_)
  refine tB (Z8d (UInt8.toNat x3 : Int)) (fun x5 h6 => ?_)
  refine tO (fun h7 => ?_) (fun h7 => ?_)
  ·refine tB (tI (by omega) (by omega)) (fun x8 h9 => ?_)
   refine tD (fun h10 => ?_) (fun h10 => ?_)
   ·refine tB (tI (by omega) (by omega)) (fun x11 h12 => ?_)
    refine tN (fun h13 => ?_) (fun h13 => ?_)
    ·exact tR trivial
    ·exact tJ (Zkh v0 v3 ⟨ov0, cl, cl, cl, cl⟩)
   ·refine tB (tI (by omega) (by omega)) (fun x14 h15 => ?_)
    refine tD (fun h16 => ?_) (fun h16 => ?_)
    ·refine tB (tI (by omega) (by omega)) (fun x17 h18 => ?_)
     refine tN (fun h19 => ?_) (fun h19 => ?_)
     ·exact tR trivial
     ·exact tJ (Zkh v0 v3 ⟨ov0, cl, cl, cl, cl⟩)
    ·exact tJ (Zkh v0 v3 ⟨ov0, cl, cl, cl, cl⟩)
  ·exact tJ (Zkh v0 v3 ⟨ov0, cl, cl, cl, cl⟩)
 ·exact tR trivial
theorem Z1f (a0 : (List UInt8)) (oa0 : SzT a0) : Tot (Zai5 a0) (fun r => True) := by
 unfold Zai5
 refine tX (Inv := Z1e) (μ := Zl0) (m := (1000000, 0, 0, 0, 0, 0)) ?_ ?_
 ·have lb_a0 : a0.length ≤ 562949953421312 := oa0
  dsimp only [Zai3, LT.den]
  have q1 : a0.length ≤ 562949953421312 := oa0
  refine tD (fun h2 => ?_) (fun h2 => ?_)
  ·exact tR trivial
  ·refine tD (fun h3 => ?_) (fun h3 => ?_)
   ·exact tR trivial
   ·refine tB (tI (by omega) (by omega)) (fun x4 h5 => ?_)
    refine tB (Z8d (UInt8.toNat x4 : Int)) (fun x6 h7 => ?_)
    refine tO (fun h8 => ?_) (fun h8 => ?_)
    ·exact tR trivial
    ·have q9 : -9223372036854775808 ≤ ((a0.length : Int) - 1) → ((a0.length : Int) - 1) < 9223372036854775808 → IntKind.wrap .i64 ((a0.length : Int) - 1) = ((a0.length : Int) - 1) := Zao _
     have q10 : -9223372036854775808 ≤ IntKind.wrap .i64 ((a0.length : Int) - 1) ∧ IntKind.wrap .i64 ((a0.length : Int) - 1) < 9223372036854775808 := Zap _
     refine tB (tI (by omega) (by omega)) (fun x11 h12 => ?_)
     refine tE (fun h13 => ?_) (fun h13 => ?_)
     ·exact tR trivial
     ·exact tL ⟨oa0, cl⟩ (by unfold Zl0 lt6; dsimp only; omega)
 ·intro s hs
  cases s with
  | L0 v0 v3 => exact Zag5 v0 v3 hs
  | L1 v0 v3 => exact Zkh v0 v3 hs
def Zwc (n m : Int) : Bool := decide (n ≥ 0) && decide (n ≤ m)
def Zadh (c : Zay) : Bool := Zwc c.Generic 99 && (Zwc c.X 2 && c.Color.list.all fun n => Zwc n 9)
theorem Zaow (c : Zay) : Zaa8 c = some (Zadh c) := by
 unfold Zaa8 LF.run; dsimp only [Zai6, LT.den]
 have hl : Za4 Zqo.step (.L0 c 0) = some (c.Color.list.all fun n => Zwc n 9) := by
  have := Zalf (st := fun i => Zqn.L0 c (i : Int)) (step := Zqo.step) (bad := false) c.Color.list (fun n => Zwc n 9) (fun i x hx => by
   have hi := (List.getElem?_eq_some_iff.1 hx).1
   have hi : i < 5 := hi
   show (Zwy _ _).den = _
   dsimp only [Zwy, LT.den]
   rw [decide_eq_true (by omega), Zag hx, Zalb (by omega) (by omega)]
   simp only [cond_true, Option.bind_some]
   unfold Zwc
   by_cases h1 : x < 0
   ·rw [decide_eq_true h1, decide_eq_false (show ¬ x ≥ 0 by omega)]; rfl
   ·rw [decide_eq_false h1, decide_eq_true (show x ≥ 0 by omega)]
    by_cases h2 : x > 9
    ·rw [decide_eq_true h2, decide_eq_false (show ¬ x ≤ 9 by omega)]; rfl
    ·rw [decide_eq_false h2, decide_eq_true (show x ≤ 9 by omega)]; rfl)
  rw [show (Zqn.L0 c 0) = .L0 c ((0 : Nat) : Int) from rfl, this]
  have he : Za4 Zqo.step (.L0 c ((c.Color.list.length : Nat) : Int)) = some true := by
   refine Zbf ?_
   show (Zwy c 5).den = _
   rfl
  rw [he]
  cases c.Color.list.all fun n => Zwc n 9 <;> rfl
 refine (Zadf fun _ => Zadf fun _ => Zadf fun _ => Zadf fun _ => (show Option.bind (some (Sum.inl (Zqn.L0 c 0))) (Zlc Zqo.step) = some (c.Color.list.all fun n => Zwc n 9) from hl)).trans ?_
 congr 1
 unfold Zadh Zwc
 rw [Bool.eq_iff_iff]
 simp only [Bool.and_eq_true, Bool.not_eq_true', decide_eq_false_iff_not, decide_eq_true_eq, ge_iff_le, gt_iff_lt, Int.not_lt]
 constructor
 ·rintro ⟨h1, h2, h3, h4, h5⟩; exact ⟨⟨h1, h2⟩, ⟨h3, h4⟩, h5⟩
 ·rintro ⟨⟨h1, h2⟩, ⟨h3, h4⟩, h5⟩; exact ⟨h1, h2, h3, h4, h5⟩
theorem Z1g (a0 : Zay) : Tot (Zaa8 a0) (fun r => (r = true → a0.X ≤ 2) ∧ (r = true → ∀ n, n ∈ A5.list a0.Color → n ≤ 9)) := by
 refine ⟨_, Zaow a0, fun h => ?_, fun h n hn => ?_⟩
 ·simp only [Zadh, Zwc, Bool.and_eq_true, decide_eq_true_eq] at h
  exact h.2.1.2
 ·simp only [Zadh, Zwc, Bool.and_eq_true, decide_eq_true_eq, List.all_eq_true] at h
  exact (h.2.2 n hn).2
theorem Z4x : Tot (Zmh) (fun r => ((SzL 16 SzN) r) ∧ (r.length = 2)) := by
 unfold Zmh
 refine tZ ?_
 dsimp only [Zu3, LT.den]
 have q1 : (SzL 16 SzN) ([([98, 97, 115, 105, 99] : List UInt8), ([117, 110, 105, 113, 117, 101] : List UInt8)] : (List (List UInt8))) := ⟨by simp only [List.length_cons, List.length_nil]; omega, (mem_cons' (by unfold SzN; first | omega | (simp only [List.length_append, List.length_cons, List.length_nil]; omega)) (mem_cons' (by unfold SzN; first | omega | (simp only [List.length_append, List.length_cons, List.length_nil]; omega)) (fun _ h => by cases h)))⟩
 have lq1 : ([([98, 97, 115, 105, 99] : List UInt8), ([117, 110, 105, 113, 117, 101] : List UInt8)] : (List (List UInt8))).length = 2 := rfl
 exact tR ⟨q1, cl⟩
def Z2b : Zm5 → Prop
 | .L0 v0 v1 v5 => ((SzL 16 SzT) v0) ∧ (SzT v1) ∧ (0 ≤ v5)
def Zp3 : Zm5 → M6
 | .L0 v0 v1 v5 => (1, ((v0.length : Int) - v5).toNat, 1000000, 0, 0, 0)
theorem Z9x (v0 : (List (List UInt8))) (v1 : (List UInt8)) (v5 : Int) (h : ((SzL 16 SzT) v0) ∧ (SzT v1) ∧ (0 ≤ v5)) : Tot (Zu5 v0 v1 v5).den (Nx Z2b Zp3 (1, ((v0.length : Int) - v5).toNat, 1000000, 0, 0, 0) (fun r => True)) := by
 obtain ⟨ov0, ov1, cv5⟩ := h
 have lb_v0 : v0.length * 16 ≤ 140737488351232 := ov0.1
 have lb_v1 : v1.length ≤ 562949953421312 := ov1
 dsimp only [Zu5, LT.den]
 have q1 : v0.length * 16 ≤ 140737488351232 := ov0.1
 refine tD (fun h2 => ?_) (fun h2 => ?_)
 ·refine tB (tI (by omega) (by omega)) (fun x3 h4 => ?_)
  have oh4 : SzT x3 := ov0.2 x3 h4.1
  refine tF (fun h5 => ?_) (fun h5 => ?_)
  ·exact tR trivial
  ·have q6 : -9223372036854775808 ≤ (v5 + 1) → (v5 + 1) < 9223372036854775808 → IntKind.wrap .i64 (v5 + 1) = (v5 + 1) := Zao _
   have q7 : -9223372036854775808 ≤ IntKind.wrap .i64 (v5 + 1) ∧ IntKind.wrap .i64 (v5 + 1) < 9223372036854775808 := Zap _
   exact tL ⟨ov0, ov1, cl⟩ (by unfold Zp3 lt6; dsimp only; omega)
 ·exact tR trivial
theorem Z2c (a0 : (List (List UInt8))) (a1 : (List UInt8)) (oa0 : (SzL 16 SzT) a0) (oa1 : SzT a1) : Tot (Z3d a0 a1) (fun r => True) := by
 unfold Z3d
 refine tX (Inv := Z2b) (μ := Zp3) (m := (1000000, 0, 0, 0, 0, 0)) ?_ ?_
 ·have lb_a0 : a0.length * 16 ≤ 140737488351232 := oa0.1
  have lb_a1 : a1.length ≤ 562949953421312 := oa1
  dsimp only [Z6p, LT.den]
  exact tL ⟨oa0, oa1, cl⟩ (by unfold Zp3 lt6; dsimp only; omega)
 ·intro s hs
  cases s with
  | L0 v0 v1 v5 => exact Z9x v0 v1 v5 hs
theorem Zt7 : Tot (Znx) (fun r => ((SzL 16 SzN) r) ∧ (r.length = 6)) := by
 unfold Znx
 refine tZ ?_
 dsimp only [Zwz, LT.den]
 have q1 : (SzL 16 SzN) ([([99, 114, 101, 97, 116, 117, 114, 101] : List UInt8), ([105, 110, 115, 116, 97, 110, 116] : List UInt8), ([114, 105, 116, 117, 97, 108] : List UInt8), ([114, 101, 108, 105, 99] : List UInt8), ([99, 104, 97, 114, 109] : List UInt8), ([108, 97, 110, 100] : List UInt8)] : (List (List UInt8))) := ⟨by simp only [List.length_cons, List.length_nil]; omega, (mem_cons' (by unfold SzN; first | omega | (simp only [List.length_append, List.length_cons, List.length_nil]; omega)) (mem_cons' (by unfold SzN; first | omega | (simp only [List.length_append, List.length_cons, List.length_nil]; omega)) (mem_cons' (by unfold SzN; first | omega | (simp only [List.length_append, List.length_cons, List.length_nil]; omega)) (mem_cons' (by unfold SzN; first | omega | (simp only [List.length_append, List.length_cons, List.length_nil]; omega)) (mem_cons' (by unfold SzN; first | omega | (simp only [List.length_append, List.length_cons, List.length_nil]; omega)) (mem_cons' (by unfold SzN; first | omega | (simp only [List.length_append, List.length_cons, List.length_nil]; omega)) (fun _ h => by cases h)))))))⟩
 have lq1 : ([([99, 114, 101, 97, 116, 117, 114, 101] : List UInt8), ([105, 110, 115, 116, 97, 110, 116] : List UInt8), ([114, 105, 116, 117, 97, 108] : List UInt8), ([114, 101, 108, 105, 99] : List UInt8), ([99, 104, 97, 114, 109] : List UInt8), ([108, 97, 110, 100] : List UInt8)] : (List (List UInt8))).length = 6 := rfl
 exact tR ⟨q1, cl⟩
theorem Ztd (a0 : (List UInt8)) (oa0 : SzT a0) : Tot (Z3f a0) (fun r => True) := by
 unfold Z3f
 refine tZ ?_
 have lb_a0 : a0.length ≤ 562949953421312 := oa0
 dsimp only [Z6r, LT.den]
 refine tB (Z1f a0 oa0) (fun x1 h2 => ?_)
 refine tF (fun h3 => ?_) (fun h3 => ?_)
 ·refine tB (Z4x) (fun x4 h5 => ?_)
  replace h5 : ((SzL 16 SzN) x4) ∧ (x4.length = 2) := h5
  have eh5_1 := h5.2
  try simp only [List.length_nil, List.length_cons, Nat.zero_add] at eh5_1
  refine tB (Z2c x4 a0 (SzL.nt h5.1) oa0) (fun x6 h7 => ?_)
  refine tD (fun h8 => ?_) (fun h8 => ?_)
  ·refine tB (Zt7) (fun x9 h10 => ?_)
   replace h10 : ((SzL 16 SzN) x9) ∧ (x9.length = 6) := h10
   have eh10_1 := h10.2
   try simp only [List.length_nil, List.length_cons, Nat.zero_add] at eh10_1
   refine tB (Z2c x9 a0 (SzL.nt h10.1) oa0) (fun x11 h12 => ?_)
   exact tR trivial
  ·exact tR trivial
 ·exact tR trivial
def Z8e : Zrs → Prop
 | .L0 v0 v1 v5 => (0 ≤ v5) ∧ (v1 ≤ 100)
def Zug : Zrs → M6
 | .L0 v0 v1 v5 => (1, (v1 - v5).toNat, 1000000, 0, 0, 0)
theorem Zafk (v0 : Int) (v1 : Int) (v5 : Int) (h : (0 ≤ v5) ∧ (v1 ≤ 100)) : Tot (Z0p v0 v1 v5).den (Nx Z8e Zug (1, (v1 - v5).toNat, 1000000, 0, 0, 0) (fun r => True)) := by
 obtain ⟨cv5, i0⟩ := h
 dsimp only [Z0p, LT.den]
 refine tD (fun h1 => ?_) (fun h1 => ?_)
 ·have q2 : -9223372036854775808 ≤ (v5 + 1) → (v5 + 1) < 9223372036854775808 → IntKind.wrap .i64 (v5 + 1) = (v5 + 1) := Zao _
  have q3 : -9223372036854775808 ≤ IntKind.wrap .i64 (v5 + 1) ∧ IntKind.wrap .i64 (v5 + 1) < 9223372036854775808 := Zap _
  exact tL ⟨cl, cl⟩ (by unfold Zug lt6; dsimp only; omega)
 ·exact tR trivial
theorem Zy8 (a0 : Int) (a1 : Int) (h0 : a1 ≤ 100) : Tot (Zae1 a0 a1) (fun r => True) := by
 unfold Zae1
 refine tX (Inv := Z8e) (μ := Zug) (m := (1000000, 0, 0, 0, 0, 0)) ?_ ?_
 ·dsimp only [Zaf9, LT.den]
  exact tL ⟨cl, cl⟩ (by unfold Zug lt6; dsimp only; omega)
 ·intro s hs
  cases s with
  | L0 v0 v1 v5 => exact Zafk v0 v1 v5 hs
def Zadi : Zu8 → Prop
 | .L0 E0 v3 => (Znp E0) ∧ (0 ≤ v3)
def Zsn : Zu8 → M6
 | .L0 E0 v3 => (1, ((E0.Subs.length : Int) - v3).toNat, 1000000, 0, 0, 0)
theorem Zag6 (E0 : Zg0) (v3 : Int) (h : (Znp E0) ∧ (0 ≤ v3)) : Tot (Z3g E0 v3).den (Nx Zadi Zsn (1, ((E0.Subs.length : Int) - v3).toNat, 1000000, 0, 0, 0) (fun r => True)) := by
 obtain ⟨ob30000000, cv3⟩ := h
 dsimp only [Z3g, LT.den]
 have q1 : E0.Subs.length * 16 ≤ 140737488351232 := ob30000000.1
 refine tD (fun h2 => ?_) (fun h2 => ?_)
 ·refine tB (tI (by omega) (by omega)) (fun x3 h4 => ?_)
  have oh4 : SzT x3 := ob30000000.2 x3 h4.1
  refine tB (Ztd x3 oh4) (fun x5 h6 => ?_)
  refine tO (fun h7 => ?_) (fun h7 => ?_)
  ·exact tR trivial
  ·refine tD (fun h8 => ?_) (fun h8 => ?_)
   ·have q9 : -9223372036854775808 ≤ (v3 - 1) → (v3 - 1) < 9223372036854775808 → IntKind.wrap .i64 (v3 - 1) = (v3 - 1) := Zao _
    have q10 : -9223372036854775808 ≤ IntKind.wrap .i64 (v3 - 1) ∧ IntKind.wrap .i64 (v3 - 1) < 9223372036854775808 := Zap _
    refine tB (tI (by omega) (by omega)) (fun x11 h12 => ?_)
    have oh12 : SzT x11 := ob30000000.2 x11 h12.1
    refine tO (fun h13 => ?_) (fun h13 => ?_)
    ·exact tR trivial
    ·have q14 : -9223372036854775808 ≤ (v3 + 1) → (v3 + 1) < 9223372036854775808 → IntKind.wrap .i64 (v3 + 1) = (v3 + 1) := Zao _
     have q15 : -9223372036854775808 ≤ IntKind.wrap .i64 (v3 + 1) ∧ IntKind.wrap .i64 (v3 + 1) < 9223372036854775808 := Zap _
     exact tL ⟨ob30000000, cl⟩ (by unfold Zsn lt6; dsimp only; omega)
   ·have q16 : -9223372036854775808 ≤ (v3 + 1) → (v3 + 1) < 9223372036854775808 → IntKind.wrap .i64 (v3 + 1) = (v3 + 1) := Zao _
    have q17 : -9223372036854775808 ≤ IntKind.wrap .i64 (v3 + 1) ∧ IntKind.wrap .i64 (v3 + 1) < 9223372036854775808 := Zap _
    exact tL ⟨ob30000000, cl⟩ (by unfold Zsn lt6; dsimp only; omega)
 ·refine tE (fun h18 => ?_) (fun h18 => ?_)
  ·exact tR trivial
  ·refine tE (fun h19 => ?_) (fun h19 => ?_)
   ·exact tR trivial
   ·refine tB (Zy8 E0.Types 1 cl) (fun x20 h21 => ?_)
    refine tO (fun h22 => ?_) (fun h22 => ?_)
    ·refine tB (Zy8 E0.Types 2 cl) (fun x23 h24 => ?_)
     exact tR trivial
    ·exact tR trivial
theorem Zaox (a0 : Zg0) (oa0 : Znp a0) : Tot (Zai9 a0) (fun r => True) := by
 unfold Zai9
 refine tX (Inv := Zadi) (μ := Zsn) (m := (1000000, 0, 0, 0, 0, 0)) ?_ ?_
 ·dsimp only [Zai7, LT.den]
  refine tD (fun h1 => ?_) (fun h1 => ?_)
  ·exact tR trivial
  ·refine tD (fun h2 => ?_) (fun h2 => ?_)
   ·exact tR trivial
   ·refine tD (fun h3 => ?_) (fun h3 => ?_)
    ·exact tR trivial
    ·refine tD (fun h4 => ?_) (fun h4 => ?_)
     ·exact tR trivial
     ·have q5 : a0.Subs.length * 16 ≤ 140737488351232 := oa0.1
      refine tD (fun h6 => ?_) (fun h6 => ?_)
      ·exact tR trivial
      ·exact tL ⟨oa0, cl⟩ (by unfold Zsn lt6; dsimp only; omega)
 ·intro s hs
  cases s with
  | L0 E0 v3 => exact Zag6 E0 v3 hs
theorem Zadj (a0 : Int) : Tot (Zajc a0) (fun r => True) := by
 unfold Zajc
 refine tZ ?_
 dsimp only [Zaja, LT.den]
 refine tD (fun h1 => ?_) (fun h1 => ?_)
 ·exact tR trivial
 ·exact tR trivial
theorem Z9y (a0 : Zt) (oa0 : Zai a0) : Tot (Zu9 a0) (fun r => True) := by
 unfold Zu9
 refine tZ ?_
 dsimp only [Zzg, LT.den]
 exact tR trivial
def Z2d : Zm6 → Prop
 | .L0 v0 v1 v7 => (0 ≤ v7) ∧ True
def Zl1 : Zm6 → M6
 | .L0 v0 v1 v7 => (1, (6 - v7).toNat, 1000000, 0, 0, 0)
theorem Z9z (v0 : Int) (v1 : Int) (v7 : Int) (h : (0 ≤ v7) ∧ True) : Tot (Zva v0 v1 v7).den (Nx Z2d Zl1 (1, (6 - v7).toNat, 1000000, 0, 0, 0) (fun r => True)) := by
 obtain ⟨cv7, _⟩ := h
 dsimp only [Zva, LT.den]
 refine tD (fun h1 => ?_) (fun h1 => ?_)
 ·refine tE (fun h2 => ?_) (fun h2 => ?_)
  ·refine tE (fun h3 => ?_) (fun h3 => ?_)
   ·exact tR trivial
   ·have q4 : -9223372036854775808 ≤ (v7 + 1) → (v7 + 1) < 9223372036854775808 → IntKind.wrap .i64 (v7 + 1) = (v7 + 1) := Zao _
    have q5 : -9223372036854775808 ≤ IntKind.wrap .i64 (v7 + 1) ∧ IntKind.wrap .i64 (v7 + 1) < 9223372036854775808 := Zap _
    exact tL ⟨cl, trivial⟩ (by unfold Zl1 lt6; dsimp only; omega)
  ·have q6 : -9223372036854775808 ≤ (v7 + 1) → (v7 + 1) < 9223372036854775808 → IntKind.wrap .i64 (v7 + 1) = (v7 + 1) := Zao _
   have q7 : -9223372036854775808 ≤ IntKind.wrap .i64 (v7 + 1) ∧ IntKind.wrap .i64 (v7 + 1) < 9223372036854775808 := Zap _
   exact tL ⟨cl, trivial⟩ (by unfold Zl1 lt6; dsimp only; omega)
 ·exact tR trivial
theorem Z2e (a0 : Int) (a1 : Int) (a2 : Int) : Tot (Z3h a0 a1 a2) (fun r => True) := by
 unfold Z3h
 refine tX (Inv := Z2d) (μ := Zl1) (m := (1000000, 0, 0, 0, 0, 0)) ?_ ?_
 ·dsimp only [Z6t, LT.den]
  refine tD (fun h1 => ?_) (fun h1 => ?_)
  ·exact tR trivial
  ·refine tD (fun h2 => ?_) (fun h2 => ?_)
   ·exact tR trivial
   ·refine tD (fun h3 => ?_) (fun h3 => ?_)
    ·exact tR trivial
    ·refine tD (fun h4 => ?_) (fun h4 => ?_)
     ·exact tR trivial
     ·exact tL ⟨cl, trivial⟩ (by unfold Zl1 lt6; dsimp only; omega)
 ·intro s hs
  cases s with
  | L0 v0 v1 v7 => exact Z9z v0 v1 v7 hs
theorem Zte (a0 : Zc) : Tot (Z3j a0) (fun r => (r = true → 0 ≤ a0.Kind ∧ a0.Kind ≤ 3)) := by
 unfold Z3j
 refine tZ ?_
 dsimp only [Z6v, LT.den]
 refine tD (fun h1 => ?_) (fun h1 => ?_)
 ·exact tR (by intro hr; cases hr)
 ·refine tD (fun h2 => ?_) (fun h2 => ?_)
  ·exact tR (by intro hr; cases hr)
  ·refine tD (fun h3 => ?_) (fun h3 => ?_)
   ·exact tR (by intro hr; cases hr)
   ·refine tD (fun h4 => ?_) (fun h4 => ?_)
    ·exact tR (by intro hr; cases hr)
    ·refine tN (fun h5 => ?_) (fun h5 => ?_)
     ·exact tR (by intro hr; first | omega | (cases hr; done))
     ·exact tR (by intro hr; first | omega | (cases hr; done))
def Zadk (a0 : Zh) : Zvc → Prop
 | .L0 E0 => (E0 = a0) ∧ (Za9 E0) ∧ (0 ≤ E0.Zone ∧ E0.Zone ≤ 5 ∧ 0 ≤ E0.Who ∧ E0.Who ≤ 2 ∧ 0 ≤ E0.Self ∧ E0.Self ≤ 2 ∧ 0 ≤ E0.Tap ∧ E0.Tap ≤ 2)
def Zagn : Zvc → M6
 | .L0 E0 => (0, 0, 0, 0, 0, 0)
theorem Ztf (a0 : Zh) (E0 : Zh) (h : (E0 = a0) ∧ (Za9 E0) ∧ (0 ≤ E0.Zone ∧ E0.Zone ≤ 5 ∧ 0 ≤ E0.Who ∧ E0.Who ≤ 2 ∧ 0 ≤ E0.Self ∧ E0.Self ≤ 2 ∧ 0 ≤ E0.Tap ∧ E0.Tap ≤ 2)) : Tot (Zrt E0).den (Nx (Zadk a0) Zagn (0, 0, 0, 0, 0, 0) (fun r => (r = true → 0 ≤ a0.Zone ∧ a0.Zone ≤ 5 ∧ 0 ≤ a0.Who ∧ a0.Who ≤ 2 ∧ 0 ≤ a0.Self ∧ a0.Self ≤ 2 ∧ 0 ≤ a0.Tap ∧ a0.Tap ≤ 2 ∧ 0 ≤ a0.Power.Kind ∧ a0.Power.Kind ≤ 3 ∧ 0 ≤ a0.Tough.Kind ∧ a0.Tough.Kind ≤ 3 ∧ 0 ≤ a0.Value.Kind ∧ a0.Value.Kind ≤ 3))) := by
 obtain ⟨al0, ob30000000, i0⟩ := h
 subst al0
 dsimp only [Zrt, LT.den]
 refine tB (Zte E0.Power) (fun x1 h2 => ?_)
 replace h2 : (x1 = true → 0 ≤ E0.Power.Kind ∧ E0.Power.Kind ≤ 3) := h2
 have eh2_0 := h2
 refine tF (fun h3 => ?_) (fun h3 => ?_)
 ·have h3_0 := eh2_0 h3
  refine tB (Zte E0.Tough) (fun x4 h5 => ?_)
  replace h5 : (x4 = true → 0 ≤ E0.Tough.Kind ∧ E0.Tough.Kind ≤ 3) := h5
  have eh5_0 := h5
  refine tF (fun h6 => ?_) (fun h6 => ?_)
  ·have h6_0 := eh5_0 h6
   refine tB (Zte E0.Value) (fun x7 h8 => ?_)
   replace h8 : (x7 = true → 0 ≤ E0.Value.Kind ∧ E0.Value.Kind ≤ 3) := h8
   have eh8_0 := h8
   exact tR (by intro hr; have := eh8_0 hr; first | omega | (cases hr; done))
  ·exact tR (by intro hr; cases hr)
 ·exact tR (by intro hr; cases hr)
theorem Zgn (a0 : Zh) (oa0 : Za9 a0) : Tot (Zajf a0) (fun r => (r = true → 0 ≤ a0.Zone ∧ a0.Zone ≤ 5 ∧ 0 ≤ a0.Who ∧ a0.Who ≤ 2 ∧ 0 ≤ a0.Self ∧ a0.Self ≤ 2 ∧ 0 ≤ a0.Tap ∧ a0.Tap ≤ 2 ∧ 0 ≤ a0.Power.Kind ∧ a0.Power.Kind ≤ 3 ∧ 0 ≤ a0.Tough.Kind ∧ a0.Tough.Kind ≤ 3 ∧ 0 ≤ a0.Value.Kind ∧ a0.Value.Kind ≤ 3)) := by
 unfold Zajf
 refine tX (Inv := (Zadk a0)) (μ := Zagn) (m := (1000000, 0, 0, 0, 0, 0)) ?_ ?_
 ·dsimp only [Zajd, LT.den]
  refine tD (fun h1 => ?_) (fun h1 => ?_)
  ·exact tR (by intro hr; cases hr)
  ·refine tD (fun h2 => ?_) (fun h2 => ?_)
   ·exact tR (by intro hr; cases hr)
   ·refine tD (fun h3 => ?_) (fun h3 => ?_)
    ·exact tR (by intro hr; cases hr)
    ·refine tD (fun h4 => ?_) (fun h4 => ?_)
     ·exact tR (by intro hr; cases hr)
     ·refine tD (fun h5 => ?_) (fun h5 => ?_)
      ·exact tR (by intro hr; cases hr)
      ·refine tD (fun h6 => ?_) (fun h6 => ?_)
       ·exact tR (by intro hr; cases hr)
       ·refine tD (fun h7 => ?_) (fun h7 => ?_)
        ·exact tR (by intro hr; cases hr)
        ·refine tD (fun h8 => ?_) (fun h8 => ?_)
         ·exact tR (by intro hr; cases hr)
         ·refine tB (Z2e a0.Types a0.NotTypes 63) (fun x9 h10 => ?_)
          refine tO (fun h11 => ?_) (fun h11 => ?_)
          ·exact tR (by intro hr; cases hr)
          ·refine tB (Z2e a0.Colors a0.NotColors 31) (fun x12 h13 => ?_)
           refine tO (fun h14 => ?_) (fun h14 => ?_)
           ·exact tR (by intro hr; cases hr)
           ·refine tO (fun h15 => ?_) (fun h15 => ?_)
            ·refine tB (Ztd a0.Sub (SzS.t oa0)) (fun x16 h17 => ?_)
             refine tO (fun h18 => ?_) (fun h18 => ?_)
             ·exact tR (by intro hr; cases hr)
             ·refine tD (fun h19 => ?_) (fun h19 => ?_)
              ·exact tR (by intro hr; cases hr)
              ·refine tD (fun h20 => ?_) (fun h20 => ?_)
               ·exact tR (by intro hr; cases hr)
               ·exact tJ (Ztf a0 a0 ⟨rfl, oa0, cl⟩)
            ·refine tD (fun h21 => ?_) (fun h21 => ?_)
             ·exact tR (by intro hr; cases hr)
             ·refine tD (fun h22 => ?_) (fun h22 => ?_)
              ·exact tR (by intro hr; cases hr)
              ·exact tJ (Ztf a0 a0 ⟨rfl, oa0, cl⟩)
 ·intro s hs
  cases s with
  | L0 E0 => exact Ztf a0 E0 hs
def Zwd : Zmi → Prop
 | .L0 E0 E1 v7 v8 => (Za2 E0) ∧ (Za2 E1)
 | .L1 E0 E1 v7 v16 => (Za2 E0) ∧ (Za2 E1)
def Zy9 : Zmi → M6
 | .L0 E0 E1 v7 v8 => (0, 0, 0, 0, 0, 0)
 | .L1 E0 E1 v7 v16 => (0, 0, 0, 0, 0, 0)
theorem Zp4 (E0 : Zj) (E1 : Zj) (v7 : Int) (v16 : Bool) (h : (Za2 E0) ∧ (Za2 E1)) : Tot (Zm7 E0 E1 v7 v16).den (Nx Zwd Zy9 (0, 0, 0, 0, 0, 0) (fun r => (Za2 r))) := by
 obtain ⟨ob30000000, ob30000001⟩ := h
 dsimp only [Zm7, LT.den]
 refine tF (fun h1 => ?_) (fun h1 => ?_)
 ·exact tR ⟨(SzS.nil), ob30000000.2⟩
 ·refine tE (fun h2 => ?_) (fun h2 => ?_)
  ·exact tR ⟨ob30000000.1, (SzS.nil)⟩
  ·refine tE (fun h3 => ?_) (fun h3 => ?_)
   ·exact tR ⟨ob30000000.1, ob30000000.2⟩
   ·refine tE (fun h4 => ?_) (fun h4 => ?_)
    ·exact tR ⟨ob30000000.1, ob30000000.2⟩
    ·exact tR ob30000000
theorem Zgo (E0 : Zj) (E1 : Zj) (v7 : Int) (v8 : Bool) (h : (Za2 E0) ∧ (Za2 E1)) : Tot (Zg8 E0 E1 v7 v8).den (Nx Zwd Zy9 (0, 0, 0, 0, 0, 0) (fun r => (Za2 r))) := by
 obtain ⟨ob30000000, ob30000001⟩ := h
 dsimp only [Zg8, LT.den]
 refine tF (fun h1 => ?_) (fun h1 => ?_)
 ·exact tR ⟨ob30000000.1, ob30000000.2⟩
 ·refine tE (fun h2 => ?_) (fun h2 => ?_)
  ·exact tJ (Zp4 E0 E1 v7 (v7 == 4) ⟨ob30000000, ob30000001⟩)
  ·exact tJ (Zp4 E0 E1 v7 (v7 == 5) ⟨ob30000000, ob30000001⟩)
theorem Zalg (a0 : Zj) (oa0 : Za2 a0) : Tot (Z8t a0) (fun r => (Za2 r)) := by
 unfold Z8t
 refine tX (Inv := Zwd) (μ := Zy9) (m := (1000000, 0, 0, 0, 0, 0)) ?_ ?_
 ·dsimp only [Zaba, LT.den]
  refine tE (fun h1 => ?_) (fun h1 => ?_)
  ·exact tJ (Zgo (⟨0, a0.N, a0.M, a0.Sub, a0.Filter⟩ : Zj) (⟨0, 0, 0, ([] : List UInt8), (⟨0, 0, 0, 0, 0, 0, 0, ([] : List UInt8), 0, 0, (⟨0, 0⟩ : Zc), (⟨0, 0⟩ : Zc), (⟨0, 0⟩ : Zc)⟩ : Zh)⟩ : Zj) a0.Kind (a0.Kind == 2) ⟨⟨oa0.1, oa0.2⟩, ⟨(SzS.nil), (SzS.nil)⟩⟩)
  ·refine tE (fun h2 => ?_) (fun h2 => ?_)
   ·exact tJ (Zgo (⟨0, a0.N, a0.M, a0.Sub, a0.Filter⟩ : Zj) (⟨0, 0, 0, ([] : List UInt8), (⟨0, 0, 0, 0, 0, 0, 0, ([] : List UInt8), 0, 0, (⟨0, 0⟩ : Zc), (⟨0, 0⟩ : Zc), (⟨0, 0⟩ : Zc)⟩ : Zh)⟩ : Zj) a0.Kind (a0.Kind == 3) ⟨⟨oa0.1, oa0.2⟩, ⟨(SzS.nil), (SzS.nil)⟩⟩)
   ·refine tE (fun h3 => ?_) (fun h3 => ?_)
    ·exact tJ (Zgo (⟨0, a0.N, a0.M, a0.Sub, a0.Filter⟩ : Zj) (⟨0, 0, 0, ([] : List UInt8), (⟨0, 0, 0, 0, 0, 0, 0, ([] : List UInt8), 0, 0, (⟨0, 0⟩ : Zc), (⟨0, 0⟩ : Zc), (⟨0, 0⟩ : Zc)⟩ : Zh)⟩ : Zj) a0.Kind (a0.Kind == 6) ⟨⟨oa0.1, oa0.2⟩, ⟨(SzS.nil), (SzS.nil)⟩⟩)
    ·refine tE (fun h4 => ?_) (fun h4 => ?_)
     ·exact tJ (Zgo (⟨0, a0.N, a0.M, a0.Sub, a0.Filter⟩ : Zj) (⟨0, 0, 0, ([] : List UInt8), (⟨0, 0, 0, 0, 0, 0, 0, ([] : List UInt8), 0, 0, (⟨0, 0⟩ : Zc), (⟨0, 0⟩ : Zc), (⟨0, 0⟩ : Zc)⟩ : Zh)⟩ : Zj) a0.Kind (a0.Kind == 7) ⟨⟨oa0.1, oa0.2⟩, ⟨(SzS.nil), (SzS.nil)⟩⟩)
     ·refine tE (fun h5 => ?_) (fun h5 => ?_)
      ·exact tJ (Zgo (⟨0, a0.N, a0.M, a0.Sub, a0.Filter⟩ : Zj) (⟨0, 0, 0, ([] : List UInt8), (⟨0, 0, 0, 0, 0, 0, 0, ([] : List UInt8), 0, 0, (⟨0, 0⟩ : Zc), (⟨0, 0⟩ : Zc), (⟨0, 0⟩ : Zc)⟩ : Zh)⟩ : Zj) a0.Kind (a0.Kind == 8) ⟨⟨oa0.1, oa0.2⟩, ⟨(SzS.nil), (SzS.nil)⟩⟩)
      ·exact tJ (Zgo (⟨0, a0.N, a0.M, a0.Sub, a0.Filter⟩ : Zj) (⟨0, 0, 0, ([] : List UInt8), (⟨0, 0, 0, 0, 0, 0, 0, ([] : List UInt8), 0, 0, (⟨0, 0⟩ : Zc), (⟨0, 0⟩ : Zc), (⟨0, 0⟩ : Zc)⟩ : Zh)⟩ : Zj) a0.Kind (a0.Kind == 9) ⟨⟨oa0.1, oa0.2⟩, ⟨(SzS.nil), (SzS.nil)⟩⟩)
 ·intro s hs
  cases s with
  | L0 E0 E1 v7 v8 => exact Zgo E0 E1 v7 v8 hs
  | L1 E0 E1 v7 v16 => exact Zp4 E0 E1 v7 v16 hs
theorem Zag7 (a0 : Int) : Tot (Z3k a0) (fun r => True) := by
 unfold Z3k
 refine tZ ?_
 dsimp only [Z6x, LT.den]
 refine tD (fun h1 => ?_) (fun h1 => ?_)
 ·refine tD (fun h2 => ?_) (fun h2 => ?_)
  ·exact tR trivial
  ·exact tR trivial
 ·exact tR trivial
def Zuh : Zoe → Prop
 | .L0 E0 v18 v19 => (Za2 E0) ∧ True
 | .L1 E0 v18 v25 => (Za2 E0) ∧ True
 | .L2 E0 v18 v51 => (Za2 E0) ∧ True
def Zxr : Zoe → M6
 | .L0 E0 v18 v19 => (0, 0, 0, 0, 0, 0)
 | .L1 E0 v18 v25 => (0, 0, 0, 0, 0, 0)
 | .L2 E0 v18 v51 => (0, 0, 0, 0, 0, 0)
theorem Ztg (E0 : Zj) (v18 : Int) (v51 : Bool) (h : (Za2 E0) ∧ True) : Tot (Zru E0 v18 v51).den (Nx Zuh Zxr (0, 0, 0, 0, 0, 0) (fun r => True)) := by
 obtain ⟨ob30000000, _⟩ := h
 dsimp only [Zru, LT.den]
 refine tF (fun h1 => ?_) (fun h1 => ?_)
 ·refine tD (fun h2 => ?_) (fun h2 => ?_)
  ·exact tR trivial
  ·exact tR trivial
 ·refine tE (fun h3 => ?_) (fun h3 => ?_)
  ·refine tB (Zgn E0.Filter ob30000000.2) (fun x4 h5 => ?_)
   replace h5 : (x4 = true → 0 ≤ E0.Filter.Zone ∧ E0.Filter.Zone ≤ 5 ∧ 0 ≤ E0.Filter.Who ∧ E0.Filter.Who ≤ 2 ∧ 0 ≤ E0.Filter.Self ∧ E0.Filter.Self ≤ 2 ∧ 0 ≤ E0.Filter.Tap ∧ E0.Filter.Tap ≤ 2 ∧ 0 ≤ E0.Filter.Power.Kind ∧ E0.Filter.Power.Kind ≤ 3 ∧ 0 ≤ E0.Filter.Tough.Kind ∧ E0.Filter.Tough.Kind ≤ 3 ∧ 0 ≤ E0.Filter.Value.Kind ∧ E0.Filter.Value.Kind ≤ 3) := h5
   have eh5_0 := h5
   exact tR trivial
  ·refine tE (fun h6 => ?_) (fun h6 => ?_)
   ·refine tD (fun h7 => ?_) (fun h7 => ?_)
    ·refine tD (fun h8 => ?_) (fun h8 => ?_)
     ·refine tD (fun h9 => ?_) (fun h9 => ?_)
      ·exact tR trivial
      ·exact tR trivial
     ·exact tR trivial
    ·exact tR trivial
   ·refine tE (fun h10 => ?_) (fun h10 => ?_)
    ·refine tD (fun h11 => ?_) (fun h11 => ?_)
     ·refine tD (fun h12 => ?_) (fun h12 => ?_)
      ·refine tD (fun h13 => ?_) (fun h13 => ?_)
       ·exact tR trivial
       ·exact tR trivial
      ·exact tR trivial
     ·exact tR trivial
    ·exact tR trivial
theorem Zth (E0 : Zj) (v18 : Int) (v25 : Bool) (h : (Za2 E0) ∧ True) : Tot (Zrv E0 v18 v25).den (Nx Zuh Zxr (0, 0, 0, 0, 0, 0) (fun r => True)) := by
 obtain ⟨ob30000000, _⟩ := h
 dsimp only [Zrv, LT.den]
 refine tF (fun h1 => ?_) (fun h1 => ?_)
 ·refine tB (Ztd E0.Sub (SzS.t ob30000000.1)) (fun x2 h3 => ?_)
  exact tR trivial
 ·refine tE (fun h4 => ?_) (fun h4 => ?_)
  ·refine tD (fun h5 => ?_) (fun h5 => ?_)
   ·exact tR trivial
   ·exact tR trivial
  ·refine tE (fun h6 => ?_) (fun h6 => ?_)
   ·refine tD (fun h7 => ?_) (fun h7 => ?_)
    ·exact tR trivial
    ·exact tR trivial
   ·refine tE (fun h8 => ?_) (fun h8 => ?_)
    ·exact tJ (Ztg E0 v18 (v18 == 8) ⟨ob30000000, trivial⟩)
    ·exact tJ (Ztg E0 v18 (v18 == 9) ⟨ob30000000, trivial⟩)
theorem Zti (E0 : Zj) (v18 : Int) (v19 : Bool) (h : (Za2 E0) ∧ True) : Tot (Zrw E0 v18 v19).den (Nx Zuh Zxr (0, 0, 0, 0, 0, 0) (fun r => True)) := by
 obtain ⟨ob30000000, _⟩ := h
 dsimp only [Zrw, LT.den]
 refine tF (fun h1 => ?_) (fun h1 => ?_)
 ·refine tB (Zag7 E0.N) (fun x2 h3 => ?_)
  exact tR trivial
 ·refine tE (fun h4 => ?_) (fun h4 => ?_)
  ·exact tJ (Zth E0 v18 (v18 == 4) ⟨ob30000000, trivial⟩)
  ·exact tJ (Zth E0 v18 (v18 == 5) ⟨ob30000000, trivial⟩)
theorem Zadl (a0 : Zj) (oa0 : Za2 a0) : Tot (Zajj a0) (fun r => True) := by
 unfold Zajj
 refine tX (Inv := Zuh) (μ := Zxr) (m := (1000000, 0, 0, 0, 0, 0)) ?_ ?_
 ·dsimp only [Zajh, LT.den]
  refine tD (fun h1 => ?_) (fun h1 => ?_)
  ·exact tR trivial
  ·refine tD (fun h2 => ?_) (fun h2 => ?_)
   ·exact tR trivial
   ·refine tB (Zalg a0 oa0) (fun x3 h4 => ?_)
    replace h4 : (Za2 x3) := h4
    refine tO (fun h5 => ?_) (fun h5 => ?_)
    ·exact tR trivial
    ·refine tE (fun h6 => ?_) (fun h6 => ?_)
     ·exact tJ (Zti a0 a0.Kind (a0.Kind == 2) ⟨oa0, trivial⟩)
     ·exact tJ (Zti a0 a0.Kind (a0.Kind == 3) ⟨oa0, trivial⟩)
 ·intro s hs
  cases s with
  | L0 E0 v18 v19 => exact Zti E0 v18 v19 hs
  | L1 E0 v18 v25 => exact Zth E0 v18 v25 hs
  | L2 E0 v18 v51 => exact Ztg E0 v18 v51 hs
def Zz8 : Zlf → Prop
 | .L0 v0 v1 v2 v7 v8 => ((SzL 16 SzN) v0) ∧ (SzN v2) ∧ (0 ≤ v8) ∧ (v7.length ≤ 200 * v8.toNat) ∧ (v0.length ≤ 100) ∧ (v8 ≤ v0.length)
def Zig : Zlf → M6
 | .L0 v0 v1 v2 v7 v8 => (1, ((v0.length : Int) - v8).toNat, 1000000, 0, 0, 0)
theorem Z6c (v0 : (List (List UInt8))) (v1 : Int) (v2 : (List UInt8)) (v7 : (List UInt8)) (v8 : Int) (h : ((SzL 16 SzN) v0) ∧ (SzN v2) ∧ (0 ≤ v8) ∧ (v7.length ≤ 200 * v8.toNat) ∧ (v0.length ≤ 100) ∧ (v8 ≤ v0.length)) : Tot (Zst v0 v1 v2 v7 v8).den (Nx Zz8 Zig (1, ((v0.length : Int) - v8).toNat, 1000000, 0, 0, 0) (fun r => (SzT r) ∧ (r.length ≤ 20000))) := by
 obtain ⟨ov0, ov2, cv8, i0, i1, i2⟩ := h
 have lb_v0 : v0.length * 16 ≤ 140737488351232 := ov0.1
 have lb_v2 : v2.length ≤ 100 := ov2
 dsimp only [Zst, LT.den]
 have q1 : v0.length * 16 ≤ 140737488351232 := (SzL.nt ov0).1
 refine tD (fun h2 => ?_) (fun h2 => ?_)
 ·refine tB (Zy8 v1 v8 cl) (fun x3 h4 => ?_)
  refine tF (fun h5 => ?_) (fun h5 => ?_)
  ·refine tO (fun h6 => ?_) (fun h6 => ?_)
   ·have q7 : v2.length ≤ 100 := ov2
    refine tB (tK (by first | (simp only [List.length_append, List.length_cons, List.length_nil]; omega) | omega)) (fun x8 h9 => ?_)
    refine tB (tI (by omega) (by omega)) (fun x10 h11 => ?_)
    have oh11 : SzN x10 := ov0.2 x10 h11.1
    have q12 : x10.length ≤ 100 := oh11
    refine tB (tK (by first | (simp only [List.length_append, List.length_cons, List.length_nil]; omega) | omega)) (fun x13 h14 => ?_)
    have q15 : -9223372036854775808 ≤ (v8 + 1) → (v8 + 1) < 9223372036854775808 → IntKind.wrap .i64 (v8 + 1) = (v8 + 1) := Zao _
    have q16 : -9223372036854775808 ≤ IntKind.wrap .i64 (v8 + 1) ∧ IntKind.wrap .i64 (v8 + 1) < 9223372036854775808 := Zap _
    exact tL ⟨ov0, ov2, cl, cl, cl, cl⟩ (by unfold Zig lt6; dsimp only; omega)
   ·refine tB (tI (by omega) (by omega)) (fun x17 h18 => ?_)
    have oh18 : SzN x17 := ov0.2 x17 h18.1
    have q19 : x17.length ≤ 100 := oh18
    refine tB (tK (by first | (simp only [List.length_append, List.length_cons, List.length_nil]; omega) | omega)) (fun x20 h21 => ?_)
    have q22 : -9223372036854775808 ≤ (v8 + 1) → (v8 + 1) < 9223372036854775808 → IntKind.wrap .i64 (v8 + 1) = (v8 + 1) := Zao _
    have q23 : -9223372036854775808 ≤ IntKind.wrap .i64 (v8 + 1) ∧ IntKind.wrap .i64 (v8 + 1) < 9223372036854775808 := Zap _
    exact tL ⟨ov0, ov2, cl, cl, cl, cl⟩ (by unfold Zig lt6; dsimp only; omega)
  ·have q24 : -9223372036854775808 ≤ (v8 + 1) → (v8 + 1) < 9223372036854775808 → IntKind.wrap .i64 (v8 + 1) = (v8 + 1) := Zao _
   have q25 : -9223372036854775808 ≤ IntKind.wrap .i64 (v8 + 1) ∧ IntKind.wrap .i64 (v8 + 1) < 9223372036854775808 := Zap _
   exact tL ⟨ov0, ov2, cl, cl, cl, cl⟩ (by unfold Zig lt6; dsimp only; omega)
 ·exact tR ⟨(by unfold SzT; first | omega | (simp only [List.length_append, List.length_cons, List.length_nil]; omega)), cl⟩
theorem Zafl (a0 : (List (List UInt8))) (a1 : Int) (a2 : (List UInt8)) (oa0 : (SzL 16 SzN) a0) (oa2 : SzN a2) (h0 : a0.length ≤ 100) : Tot (Z0r a0 a1 a2) (fun r => (SzT r) ∧ (r.length ≤ 20000)) := by
 unfold Z0r
 refine tX (Inv := Zz8) (μ := Zig) (m := (1000000, 0, 0, 0, 0, 0)) ?_ ?_
 ·have lb_a0 : a0.length * 16 ≤ 140737488351232 := oa0.1
  have lb_a2 : a2.length ≤ 100 := oa2
  dsimp only [Z3l, LT.den]
  exact tL ⟨oa0, oa2, cl, cl, cl, cl⟩ (by unfold Zig lt6; dsimp only; omega)
 ·intro s hs
  cases s with
  | L0 v0 v1 v2 v7 v8 => exact Z6c v0 v1 v2 v7 v8 hs
theorem Zm0 (a0 : Int) : Tot (Zsu a0) (fun r => (SzT r) ∧ (r.length ≤ 20000)) := by
 unfold Zsu
 refine tZ ?_
 dsimp only [Zw1, LT.den]
 refine tD (fun h1 => ?_) (fun h1 => ?_)
 ·exact tR ⟨(SzT.nil), cl⟩
 ·refine tD (fun h2 => ?_) (fun h2 => ?_)
  ·exact tR ⟨(SzT.nil), cl⟩
  ·refine tB (Zt7) (fun x3 h4 => ?_)
   replace h4 : ((SzL 16 SzN) x3) ∧ (x3.length = 6) := h4
   have eh4_1 := h4.2
   try simp only [List.length_nil, List.length_cons, Nat.zero_add] at eh4_1
   refine tB (Zafl x3 a0 ([43] : List UInt8) h4.1 (by unfold SzN; first | omega | (simp only [List.length_append, List.length_cons, List.length_nil]; omega)) cl) (fun x5 h6 => ?_)
   replace h6 : (SzT x5) ∧ (x5.length ≤ 20000) := h6
   have eh6_1 := h6.2
   try simp only [List.length_nil, List.length_cons, Nat.zero_add] at eh6_1
   exact tR ⟨h6.1, cl⟩
theorem Zaoy (a0 : Int) : Tot (Zajm a0) (fun r => True) := by
 unfold Zajm
 refine tZ ?_
 dsimp only [Zajk, LT.den]
 refine tD (fun h1 => ?_) (fun h1 => ?_)
 ·exact tR trivial
 ·exact tR trivial
theorem Zp5 (a0 : Int) : Tot (Z8u a0) (fun r => (SzN r)) := by
 unfold Z8u
 refine tZ ?_
 dsimp only [Zabc, LT.den]
 refine tE (fun h1 => ?_) (fun h1 => ?_)
 ·exact tR (by unfold SzN; first | omega | (simp only [List.length_append, List.length_cons, List.length_nil]; omega))
 ·refine tE (fun h2 => ?_) (fun h2 => ?_)
  ·exact tR (by unfold SzN; first | omega | (simp only [List.length_append, List.length_cons, List.length_nil]; omega))
  ·refine tE (fun h3 => ?_) (fun h3 => ?_)
   ·exact tR (by unfold SzN; first | omega | (simp only [List.length_append, List.length_cons, List.length_nil]; omega))
   ·refine tE (fun h4 => ?_) (fun h4 => ?_)
    ·exact tR (by unfold SzN; first | omega | (simp only [List.length_append, List.length_cons, List.length_nil]; omega))
    ·refine tE (fun h5 => ?_) (fun h5 => ?_)
     ·exact tR (by unfold SzN; first | omega | (simp only [List.length_append, List.length_cons, List.length_nil]; omega))
     ·exact tR (SzN.nil)
def Z4y : Zpb → Prop
 | .L0 v0 v3 v4 => (0 ≤ v4) ∧ (v3.length ≤ 200 * v4.toNat) ∧ (v4 ≤ 5)
def Zkn : Zpb → M6
 | .L0 v0 v3 v4 => (1, (5 - v4).toNat, 1000000, 0, 0, 0)
theorem Zadm (v0 : Int) (v3 : (List UInt8)) (v4 : Int) (h : (0 ≤ v4) ∧ (v3.length ≤ 200 * v4.toNat) ∧ (v4 ≤ 5)) : Tot (Zx9 v0 v3 v4).den (Nx Z4y Zkn (1, (5 - v4).toNat, 1000000, 0, 0, 0) (fun r => (SzT r))) := by
 obtain ⟨cv4, i0, i1⟩ := h
 dsimp only [Zx9, LT.den]
 refine tD (fun h1 => ?_) (fun h1 => ?_)
 ·refine tB (tK (by first | omega | exact shl_ne' (by omega) (by omega) | decide)) (fun x2 h3 => ?_)
  refine tB (tK (by first | omega | exact shl_ne' (by omega) (by omega) | decide)) (fun x4 h5 => ?_)
  refine tE (fun h6 => ?_) (fun h6 => ?_)
  ·refine tO (fun h7 => ?_) (fun h7 => ?_)
   ·refine tB (tK (by first | (simp only [List.length_append, List.length_cons, List.length_nil]; omega) | omega)) (fun x8 h9 => ?_)
    refine tB (Zp5 v4) (fun x10 h11 => ?_)
    replace h11 : (SzN x10) := h11
    have q12 : x10.length ≤ 100 := h11
    refine tB (tK (by first | (simp only [List.length_append, List.length_cons, List.length_nil]; omega) | omega)) (fun x13 h14 => ?_)
    have q15 : -9223372036854775808 ≤ (v4 + 1) → (v4 + 1) < 9223372036854775808 → IntKind.wrap .i64 (v4 + 1) = (v4 + 1) := Zao _
    have q16 : -9223372036854775808 ≤ IntKind.wrap .i64 (v4 + 1) ∧ IntKind.wrap .i64 (v4 + 1) < 9223372036854775808 := Zap _
    exact tL ⟨cl, cl, cl⟩ (by unfold Zkn lt6; dsimp only; omega)
   ·refine tB (Zp5 v4) (fun x17 h18 => ?_)
    replace h18 : (SzN x17) := h18
    have q19 : x17.length ≤ 100 := h18
    refine tB (tK (by first | (simp only [List.length_append, List.length_cons, List.length_nil]; omega) | omega)) (fun x20 h21 => ?_)
    have q22 : -9223372036854775808 ≤ (v4 + 1) → (v4 + 1) < 9223372036854775808 → IntKind.wrap .i64 (v4 + 1) = (v4 + 1) := Zao _
    have q23 : -9223372036854775808 ≤ IntKind.wrap .i64 (v4 + 1) ∧ IntKind.wrap .i64 (v4 + 1) < 9223372036854775808 := Zap _
    exact tL ⟨cl, cl, cl⟩ (by unfold Zkn lt6; dsimp only; omega)
  ·have q24 : -9223372036854775808 ≤ (v4 + 1) → (v4 + 1) < 9223372036854775808 → IntKind.wrap .i64 (v4 + 1) = (v4 + 1) := Zao _
   have q25 : -9223372036854775808 ≤ IntKind.wrap .i64 (v4 + 1) ∧ IntKind.wrap .i64 (v4 + 1) < 9223372036854775808 := Zap _
   exact tL ⟨cl, cl, cl⟩ (by unfold Zkn lt6; dsimp only; omega)
 ·exact tR (by unfold SzT; first | omega | (simp only [List.length_append, List.length_cons, List.length_nil]; omega))
theorem Z4z (a0 : Int) : Tot (Z8v a0) (fun r => (SzT r)) := by
 unfold Z8v
 refine tX (Inv := Z4y) (μ := Zkn) (m := (1000000, 0, 0, 0, 0, 0)) ?_ ?_
 ·dsimp only [Zabe, LT.den]
  refine tB (Zaoy a0) (fun x1 h2 => ?_)
  refine tO (fun h3 => ?_) (fun h3 => ?_)
  ·exact tR (SzT.nil)
  ·refine tE (fun h4 => ?_) (fun h4 => ?_)
   ·exact tR (by unfold SzT; first | omega | (simp only [List.length_append, List.length_cons, List.length_nil]; omega))
   ·exact tL ⟨cl, cl, cl⟩ (by unfold Zkn lt6; dsimp only; omega)
 ·intro s hs
  cases s with
  | L0 v0 v3 v4 => exact Zadm v0 v3 v4 hs
theorem Zag8 : Tot (Zw3) (fun r => ((SzL 16 SzN) r) ∧ (r.length = 17)) := by
 unfold Zw3
 refine tZ ?_
 dsimp only [Z60, LT.den]
 have q1 : (SzL 16 SzN) ([([102, 108, 121, 105, 110, 103] : List UInt8), ([114, 101, 97, 99, 104] : List UInt8), ([104, 97, 115, 116, 101] : List UInt8), ([118, 105, 103, 105, 108, 97, 110, 116] : List UInt8), ([116, 114, 97, 109, 112, 108, 101] : List UInt8), ([102, 105, 114, 115, 116, 45, 115, 116, 114, 105, 107, 101] : List UInt8), ([100, 111, 117, 98, 108, 101, 45, 115, 116, 114, 105, 107, 101] : List UInt8), ([100, 101, 97, 100, 108, 121] : List UInt8), ([108, 105, 102, 101, 108, 105, 110, 107] : List UInt8), ([109, 101, 110, 97, 99, 101] : List UInt8), ([100, 101, 102, 101, 110, 100, 101, 114] : List UInt8), ([119, 97, 114, 100, 101, 100] : List UInt8), ([115, 116, 117, 114, 100, 121] : List UInt8), ([101, 108, 117, 115, 105, 118, 101] : List UInt8), ([110, 111, 45, 97, 116, 116, 97, 99, 107] : List UInt8), ([110, 111, 45, 98, 108, 111, 99, 107] : List UInt8), ([109, 117, 115, 116, 45, 97, 116, 116, 97, 99, 107] : List UInt8)] : (List (List UInt8))) := ⟨by simp only [List.length_cons, List.length_nil]; omega, (mem_cons' (by unfold SzN; first | omega | (simp only [List.length_append, List.length_cons, List.length_nil]; omega)) (mem_cons' (by unfold SzN; first | omega | (simp only [List.length_append, List.length_cons, List.length_nil]; omega)) (mem_cons' (by unfold SzN; first | omega | (simp only [List.length_append, List.length_cons, List.length_nil]; omega)) (mem_cons' (by unfold SzN; first | omega | (simp only [List.length_append, List.length_cons, List.length_nil]; omega)) (mem_cons' (by unfold SzN; first | omega | (simp only [List.length_append, List.length_cons, List.length_nil]; omega)) (mem_cons' (by unfold SzN; first | omega | (simp only [List.length_append, List.length_cons, List.length_nil]; omega)) (mem_cons' (by unfold SzN; first | omega | (simp only [List.length_append, List.length_cons, List.length_nil]; omega)) (mem_cons' (by unfold SzN; first | omega | (simp only [List.length_append, List.length_cons, List.length_nil]; omega)) (mem_cons' (by unfold SzN; first | omega | (simp only [List.length_append, List.length_cons, List.length_nil]; omega)) (mem_cons' (by unfold SzN; first | omega | (simp only [List.length_append, List.length_cons, List.length_nil]; omega)) (mem_cons' (by unfold SzN; first | omega | (simp only [List.length_append, List.length_cons, List.length_nil]; omega)) (mem_cons' (by unfold SzN; first | omega | (simp only [List.length_append, List.length_cons, List.length_nil]; omega)) (mem_cons' (by unfold SzN; first | omega | (simp only [List.length_append, List.length_cons, List.length_nil]; omega)) (mem_cons' (by unfold SzN; first | omega | (simp only [List.length_append, List.length_cons, List.length_nil]; omega)) (mem_cons' (by unfold SzN; first | omega | (simp only [List.length_append, List.length_cons, List.length_nil]; omega)) (mem_cons' (by unfold SzN; first | omega | (simp only [List.length_append, List.length_cons, List.length_nil]; omega)) (mem_cons' (by unfold SzN; first | omega | (simp only [List.length_append, List.length_cons, List.length_nil]; omega)) (fun _ h => by cases h))))))))))))))))))⟩
 have lq1 : ([([102, 108, 121, 105, 110, 103] : List UInt8), ([114, 101, 97, 99, 104] : List UInt8), ([104, 97, 115, 116, 101] : List UInt8), ([118, 105, 103, 105, 108, 97, 110, 116] : List UInt8), ([116, 114, 97, 109, 112, 108, 101] : List UInt8), ([102, 105, 114, 115, 116, 45, 115, 116, 114, 105, 107, 101] : List UInt8), ([100, 111, 117, 98, 108, 101, 45, 115, 116, 114, 105, 107, 101] : List UInt8), ([100, 101, 97, 100, 108, 121] : List UInt8), ([108, 105, 102, 101, 108, 105, 110, 107] : List UInt8), ([109, 101, 110, 97, 99, 101] : List UInt8), ([100, 101, 102, 101, 110, 100, 101, 114] : List UInt8), ([119, 97, 114, 100, 101, 100] : List UInt8), ([115, 116, 117, 114, 100, 121] : List UInt8), ([101, 108, 117, 115, 105, 118, 101] : List UInt8), ([110, 111, 45, 97, 116, 116, 97, 99, 107] : List UInt8), ([110, 111, 45, 98, 108, 111, 99, 107] : List UInt8), ([109, 117, 115, 116, 45, 97, 116, 116, 97, 99, 107] : List UInt8)] : (List (List UInt8))).length = 17 := rfl
 exact tR ⟨q1, cl⟩
theorem Zwe (a0 : Int) : Tot (Z8w a0) (fun r => (SzN r)) := by
 unfold Z8w
 refine tZ ?_
 dsimp only [Zabg, LT.den]
 refine tD (fun h1 => ?_) (fun h1 => ?_)
 ·exact tR (SzN.nil)
 ·refine tD (fun h2 => ?_) (fun h2 => ?_)
  ·exact tR (SzN.nil)
  ·refine tB (Zag8) (fun x3 h4 => ?_)
   replace h4 : ((SzL 16 SzN) x3) ∧ (x3.length = 17) := h4
   have eh4_1 := h4.2
   try simp only [List.length_nil, List.length_cons, Nat.zero_add] at eh4_1
   refine tB (tI (by omega) (by omega)) (fun x5 h6 => ?_)
   have oh6 : SzN x5 := h4.1.2 x5 h6.1
   exact tR oh6
def Z40 : Zpc → Prop
 | .L0 v0 v3 v4 => (0 ≤ v4) ∧ (v3.length ≤ 200 * v4.toNat) ∧ (v4 ≤ 17)
def Zko : Zpc → M6
 | .L0 v0 v3 v4 => (1, (17 - v4).toNat, 1000000, 0, 0, 0)
theorem Zadn (v0 : Int) (v3 : (List UInt8)) (v4 : Int) (h : (0 ≤ v4) ∧ (v3.length ≤ 200 * v4.toNat) ∧ (v4 ≤ 17)) : Tot (Zyb v0 v3 v4).den (Nx Z40 Zko (1, (17 - v4).toNat, 1000000, 0, 0, 0) (fun r => (SzT r))) := by
 obtain ⟨cv4, i0, i1⟩ := h
 dsimp only [Zyb, LT.den]
 refine tD (fun h1 => ?_) (fun h1 => ?_)
 ·refine tE (fun h2 => ?_) (fun h2 => ?_)
  ·refine tO (fun h3 => ?_) (fun h3 => ?_)
   ·refine tB (tK (by first | (simp only [List.length_append, List.length_cons, List.length_nil]; omega) | omega)) (fun x4 h5 => ?_)
    refine tB (Zwe v4) (fun x6 h7 => ?_)
    replace h7 : (SzN x6) := h7
    have q8 : x6.length ≤ 100 := h7
    refine tB (tK (by first | (simp only [List.length_append, List.length_cons, List.length_nil]; omega) | omega)) (fun x9 h10 => ?_)
    have q11 : -9223372036854775808 ≤ (v4 + 1) → (v4 + 1) < 9223372036854775808 → IntKind.wrap .i64 (v4 + 1) = (v4 + 1) := Zao _
    have q12 : -9223372036854775808 ≤ IntKind.wrap .i64 (v4 + 1) ∧ IntKind.wrap .i64 (v4 + 1) < 9223372036854775808 := Zap _
    exact tL ⟨cl, cl, cl⟩ (by unfold Zko lt6; dsimp only; omega)
   ·refine tB (Zwe v4) (fun x13 h14 => ?_)
    replace h14 : (SzN x13) := h14
    have q15 : x13.length ≤ 100 := h14
    refine tB (tK (by first | (simp only [List.length_append, List.length_cons, List.length_nil]; omega) | omega)) (fun x16 h17 => ?_)
    have q18 : -9223372036854775808 ≤ (v4 + 1) → (v4 + 1) < 9223372036854775808 → IntKind.wrap .i64 (v4 + 1) = (v4 + 1) := Zao _
    have q19 : -9223372036854775808 ≤ IntKind.wrap .i64 (v4 + 1) ∧ IntKind.wrap .i64 (v4 + 1) < 9223372036854775808 := Zap _
    exact tL ⟨cl, cl, cl⟩ (by unfold Zko lt6; dsimp only; omega)
  ·have q20 : -9223372036854775808 ≤ (v4 + 1) → (v4 + 1) < 9223372036854775808 → IntKind.wrap .i64 (v4 + 1) = (v4 + 1) := Zao _
   have q21 : -9223372036854775808 ≤ IntKind.wrap .i64 (v4 + 1) ∧ IntKind.wrap .i64 (v4 + 1) < 9223372036854775808 := Zap _
   exact tL ⟨cl, cl, cl⟩ (by unfold Zko lt6; dsimp only; omega)
 ·refine tF (fun h22 => ?_) (fun h22 => ?_)
  ·exact tR (by unfold SzT; first | omega | (simp only [List.length_append, List.length_cons, List.length_nil]; omega))
  ·exact tR (by unfold SzT; first | omega | (simp only [List.length_append, List.length_cons, List.length_nil]; omega))
theorem Z41 (a0 : Int) : Tot (Z8x a0) (fun r => (SzT r)) := by
 unfold Z8x
 refine tX (Inv := Z40) (μ := Zko) (m := (1000000, 0, 0, 0, 0, 0)) ?_ ?_
 ·dsimp only [Zabi, LT.den]
  refine tB (Zadj a0) (fun x1 h2 => ?_)
  refine tO (fun h3 => ?_) (fun h3 => ?_)
  ·exact tR (SzT.nil)
  ·exact tL ⟨cl, cl, cl⟩ (by unfold Zko lt6; dsimp only; omega)
 ·intro s hs
  cases s with
  | L0 v0 v3 v4 => exact Zadn v0 v3 v4 hs
theorem Z6d : Tot (Zny) (fun r => ((SzL 16 SzN) r) ∧ (r.length = 6)) := by
 unfold Zny
 refine tZ ?_
 dsimp only [Zw4, LT.den]
 have q1 : (SzL 16 SzN) ([([] : List UInt8), ([105, 110, 45, 104, 97, 110, 100] : List UInt8), ([105, 110, 45, 108, 105, 98, 114, 97, 114, 121] : List UInt8), ([105, 110, 45, 103, 114, 97, 118, 101, 121, 97, 114, 100] : List UInt8), ([105, 110, 45, 101, 120, 105, 108, 101] : List UInt8), ([111, 110, 45, 115, 116, 97, 99, 107] : List UInt8)] : (List (List UInt8))) := ⟨by simp only [List.length_cons, List.length_nil]; omega, (mem_cons' (SzN.nil) (mem_cons' (by unfold SzN; first | omega | (simp only [List.length_append, List.length_cons, List.length_nil]; omega)) (mem_cons' (by unfold SzN; first | omega | (simp only [List.length_append, List.length_cons, List.length_nil]; omega)) (mem_cons' (by unfold SzN; first | omega | (simp only [List.length_append, List.length_cons, List.length_nil]; omega)) (mem_cons' (by unfold SzN; first | omega | (simp only [List.length_append, List.length_cons, List.length_nil]; omega)) (mem_cons' (by unfold SzN; first | omega | (simp only [List.length_append, List.length_cons, List.length_nil]; omega)) (fun _ h => by cases h)))))))⟩
 have lq1 : ([([] : List UInt8), ([105, 110, 45, 104, 97, 110, 100] : List UInt8), ([105, 110, 45, 108, 105, 98, 114, 97, 114, 121] : List UInt8), ([105, 110, 45, 103, 114, 97, 118, 101, 121, 97, 114, 100] : List UInt8), ([105, 110, 45, 101, 120, 105, 108, 101] : List UInt8), ([111, 110, 45, 115, 116, 97, 99, 107] : List UInt8)] : (List (List UInt8))).length = 6 := rfl
 exact tR ⟨q1, cl⟩
theorem Z90 : Tot (Zpd) (fun r => ((SzL 16 SzN) r) ∧ (r.length = 3)) := by
 unfold Zpd
 refine tZ ?_
 dsimp only [Zzi, LT.den]
 have q1 : (SzL 16 SzN) ([([] : List UInt8), ([121, 111, 117, 114, 115] : List UInt8), ([116, 104, 101, 105, 114, 115] : List UInt8)] : (List (List UInt8))) := ⟨by simp only [List.length_cons, List.length_nil]; omega, (mem_cons' (SzN.nil) (mem_cons' (by unfold SzN; first | omega | (simp only [List.length_append, List.length_cons, List.length_nil]; omega)) (mem_cons' (by unfold SzN; first | omega | (simp only [List.length_append, List.length_cons, List.length_nil]; omega)) (fun _ h => by cases h))))⟩
 have lq1 : ([([] : List UInt8), ([121, 111, 117, 114, 115] : List UInt8), ([116, 104, 101, 105, 114, 115] : List UInt8)] : (List (List UInt8))).length = 3 := rfl
 exact tR ⟨q1, cl⟩
theorem Z6e : Tot (Znz) (fun r => ((SzL 16 SzN) r) ∧ (r.length = 3)) := by
 unfold Znz
 refine tZ ?_
 dsimp only [Zw6, LT.den]
 have q1 : (SzL 16 SzN) ([([] : List UInt8), ([115, 101, 108, 102] : List UInt8), ([111, 116, 104, 101, 114] : List UInt8)] : (List (List UInt8))) := ⟨by simp only [List.length_cons, List.length_nil]; omega, (mem_cons' (SzN.nil) (mem_cons' (by unfold SzN; first | omega | (simp only [List.length_append, List.length_cons, List.length_nil]; omega)) (mem_cons' (by unfold SzN; first | omega | (simp only [List.length_append, List.length_cons, List.length_nil]; omega)) (fun _ h => by cases h))))⟩
 have lq1 : ([([] : List UInt8), ([115, 101, 108, 102] : List UInt8), ([111, 116, 104, 101, 114] : List UInt8)] : (List (List UInt8))).length = 3 := rfl
 exact tR ⟨q1, cl⟩
theorem Z91 : Tot (Zpe) (fun r => ((SzL 16 SzN) r) ∧ (r.length = 3)) := by
 unfold Zpe
 refine tZ ?_
 dsimp only [Zzk, LT.den]
 have q1 : (SzL 16 SzN) ([([] : List UInt8), ([116, 97, 112, 112, 101, 100] : List UInt8), ([117, 110, 116, 97, 112, 112, 101, 100] : List UInt8)] : (List (List UInt8))) := ⟨by simp only [List.length_cons, List.length_nil]; omega, (mem_cons' (SzN.nil) (mem_cons' (by unfold SzN; first | omega | (simp only [List.length_append, List.length_cons, List.length_nil]; omega)) (mem_cons' (by unfold SzN; first | omega | (simp only [List.length_append, List.length_cons, List.length_nil]; omega)) (fun _ h => by cases h))))⟩
 have lq1 : ([([] : List UInt8), ([116, 97, 112, 112, 101, 100] : List UInt8), ([117, 110, 116, 97, 112, 112, 101, 100] : List UInt8)] : (List (List UInt8))).length = 3 := rfl
 exact tR ⟨q1, cl⟩
def Z8f : Zrx → Prop
 | .L0 v0 v1 v5 => (0 ≤ v5) ∧ (v1 ≤ 100)
def Zui : Zrx → M6
 | .L0 v0 v1 v5 => (1, (v1 - v5).toNat, 1000000, 0, 0, 0)
theorem Zafm (v0 : Int) (v1 : Int) (v5 : Int) (h : (0 ≤ v5) ∧ (v1 ≤ 100)) : Tot (Z0s v0 v1 v5).den (Nx Z8f Zui (1, (v1 - v5).toNat, 1000000, 0, 0, 0) (fun r => True)) := by
 obtain ⟨cv5, i0⟩ := h
 dsimp only [Z0s, LT.den]
 refine tD (fun h1 => ?_) (fun h1 => ?_)
 ·have q2 : -9223372036854775808 ≤ (v5 + 1) → (v5 + 1) < 9223372036854775808 → IntKind.wrap .i64 (v5 + 1) = (v5 + 1) := Zao _
  have q3 : -9223372036854775808 ≤ IntKind.wrap .i64 (v5 + 1) ∧ IntKind.wrap .i64 (v5 + 1) < 9223372036854775808 := Zap _
  exact tL ⟨cl, cl⟩ (by unfold Zui lt6; dsimp only; omega)
 ·exact tR trivial
theorem Znq (a0 : Int) (a1 : Int) (h0 : a1 ≤ 100) : Tot (Zae2 a0 a1) (fun r => True) := by
 unfold Zae2
 refine tX (Inv := Z8f) (μ := Zui) (m := (1000000, 0, 0, 0, 0, 0)) ?_ ?_
 ·dsimp only [Zagd, LT.den]
  exact tL ⟨cl, cl⟩ (by unfold Zui lt6; dsimp only; omega)
 ·intro s hs
  cases s with
  | L0 v0 v1 v5 => exact Zafm v0 v1 v5 hs
def Zwf : Ziz → Prop
 | .L0 v0 v3 v4 => (0 ≤ v4) ∧ (v0 ≤ 100)
def Zk0 : Ziz → M6
 | .L0 v0 v3 v4 => (1, (v0 - v4).toNat, 1000000, 0, 0, 0)
theorem Z2r (v0 : Int) (v3 : Int) (v4 : Int) (h : (0 ≤ v4) ∧ (v0 ≤ 100)) : Tot (Zpg v0 v3 v4).den (Nx Zwf Zk0 (1, (v0 - v4).toNat, 1000000, 0, 0, 0) (fun r => (SzT r) ∧ (r.length ≤ 20000))) := by
 obtain ⟨cv4, i0⟩ := h
 dsimp only [Zpg, LT.den]
 refine tD (fun h1 => ?_) (fun h1 => ?_)
 ·have q2 : -9223372036854775808 ≤ (v3 * 2) → (v3 * 2) < 9223372036854775808 → IntKind.wrap .i64 (v3 * 2) = (v3 * 2) := Zao _
  have q3 : -9223372036854775808 ≤ IntKind.wrap .i64 (v3 * 2) ∧ IntKind.wrap .i64 (v3 * 2) < 9223372036854775808 := Zap _
  have q4 : -9223372036854775808 ≤ (v4 + 1) → (v4 + 1) < 9223372036854775808 → IntKind.wrap .i64 (v4 + 1) = (v4 + 1) := Zao _
  have q5 : -9223372036854775808 ≤ IntKind.wrap .i64 (v4 + 1) ∧ IntKind.wrap .i64 (v4 + 1) < 9223372036854775808 := Zap _
  exact tL ⟨cl, cl⟩ (by unfold Zk0 lt6; dsimp only; omega)
 ·refine tB (Zm0 v3) (fun x6 h7 => ?_)
  replace h7 : (SzT x6) ∧ (x6.length ≤ 20000) := h7
  have eh7_1 := h7.2
  try simp only [List.length_nil, List.length_cons, Nat.zero_add] at eh7_1
  exact tR ⟨h7.1, cl⟩
theorem Zwg (a0 : Int) (h0 : a0 ≤ 100) : Tot (Zvd a0) (fun r => (SzT r) ∧ (r.length ≤ 20000)) := by
 unfold Zvd
 refine tX (Inv := Zwf) (μ := Zk0) (m := (1000000, 0, 0, 0, 0, 0)) ?_ ?_
 ·dsimp only [Zzm, LT.den]
  exact tL ⟨cl, cl⟩ (by unfold Zk0 lt6; dsimp only; omega)
 ·intro s hs
  cases s with
  | L0 v0 v3 v4 => exact Z2r v0 v3 v4 hs
theorem Zag9 : Tot (Zw9) (fun r => ((SzL 16 SzN) r) ∧ (r.length = 4)) := by
 unfold Zw9
 refine tZ ?_
 dsimp only [Z63, LT.den]
 have q1 : (SzL 16 SzN) ([([] : List UInt8), ([62, 61] : List UInt8), ([60, 61] : List UInt8), ([61] : List UInt8)] : (List (List UInt8))) := ⟨by simp only [List.length_cons, List.length_nil]; omega, (mem_cons' (SzN.nil) (mem_cons' (by unfold SzN; first | omega | (simp only [List.length_append, List.length_cons, List.length_nil]; omega)) (mem_cons' (by unfold SzN; first | omega | (simp only [List.length_append, List.length_cons, List.length_nil]; omega)) (mem_cons' (by unfold SzN; first | omega | (simp only [List.length_append, List.length_cons, List.length_nil]; omega)) (fun _ h => by cases h)))))⟩
 have lq1 : ([([] : List UInt8), ([62, 61] : List UInt8), ([60, 61] : List UInt8), ([61] : List UInt8)] : (List (List UInt8))).length = 4 := rfl
 exact tR ⟨q1, cl⟩
theorem Zar0 {n : Int} (h0 : 0 ≤ n) (h1 : n < 18446744073709551616) : Zpa .u64 n 10 = n / 10 := by
 unfold Zpa
 rw [Int.tdiv_eq_ediv_of_nonneg h0]
 have h2 : 0 ≤ n / 10 := by omega
 have h3 : n / 10 < 18446744073709551616 := by omega
 simp only [IntKind.wrap, IntKind.bits, IntKind.signed, Bool.false_and, Bool.false_eq_true, if_false]
 exact Int.emod_eq_of_lt h2 h3
theorem Zxs : ∀ (k : Nat) (n : Int) (s : List UInt8), k ≤ 20 → 0 ≤ n → n < 10 ^ k → n < 18446744073709551616 → s.length + k ≤ 40 → Tot (Za4 Zph.step (.L0 n s)) fun r => SzN r ∧ r.length ≤ 40
 | 0, n, s, _, h0, h1, _, hs => by
  have : n = 0 := by omega
  subst this
  refine Tot.stop (r := s) ?_ ⟨show s.length ≤ 100 by omega, by omega⟩
  show (Zhm _ _).den = _
  dsimp only [Zhm, LT.den]
  rfl
 | k + 1, n, s, hk, h0, h1, h2, hs => by
  by_cases hn : n > 0
  ·obtain ⟨d, hd, hl⟩ := Tot.str (xs := [IntKind.wrap .u8 (IntKind.wrap .u64 (48 + (Int.tmod n 10)))]) (by simp) (by intro m hm; simp only [List.mem_cons, List.not_mem_nil, or_false] at hm; subst hm; exact Zaqi _)
   simp only [List.length_cons, List.length_nil] at hl
   have e : Zph.step (.L0 n s) = some (.inl (.L0 (n / 10) (d ++ s))) := by
    show (Zhm _ _).den = _
    dsimp only [Zhm, LT.den]
    rw [decide_eq_true hn, cond_true, hd, Option.bind_some, decide_eq_true (show d.length + s.length ≤ 9223372036854775807 by omega), Zar0 h0 h2]
    rfl
   obtain ⟨r, hr, hp⟩ := Zxs k (n / 10) (d ++ s) (by omega) (by omega) (by
    rw [Int.pow_succ] at h1
    have : n / 10 < 10 ^ k := Int.ediv_lt_of_lt_mul (by decide) h1
    exact this) (by omega) (by rw [List.length_append]; omega)
   exact ⟨r, by rw [Zdg e]; exact hr, hp⟩
  ·refine Tot.stop (r := s) ?_ ⟨show s.length ≤ 100 by omega, by omega⟩
   show (Zhm _ _).den = _
   dsimp only [Zhm, LT.den]
   rw [decide_eq_false hn]; rfl
theorem Zz9 (a0 : Int) (h0 : 0 ≤ a0) (h1 : a0 < 18446744073709551616) : Tot (Z0t a0) (fun r => (SzN r) ∧ (r.length ≤ 40)) := by
 unfold Z0t LF.run; dsimp only [Z3n, LT.den]
 obtain ⟨d, hd, hl⟩ := Tot.str (xs := [IntKind.wrap .u8 (IntKind.wrap .u64 (48 + (Int.tmod a0 10)))]) (by simp) (by intro m hm; simp only [List.mem_cons, List.not_mem_nil, or_false] at hm; subst hm; exact Zaqi _)
 simp only [List.length_cons, List.length_nil] at hl
 rw [hd, Option.bind_some, Option.bind_some, Zbt, Zar0 h0 h1]
 exact Zxs 20 (a0 / 10) d (by omega) (by omega) (by omega) (by omega) (by omega)
theorem Zja (a0 : Int) : Tot (Z82 a0) (fun r => (SzN r)) := by
 unfold Z82
 refine tZ ?_
 dsimp only [Zabm, LT.den]
 refine tD (fun h1 => ?_) (fun h1 => ?_)
 ·have q2 : 0 ≤ IntKind.wrap .u64 a0 ∧ IntKind.wrap .u64 a0 < 18446744073709551616 := Zafe _
  have q3 : 0 ≤ IntKind.wrap .u64 (0 - (IntKind.wrap .u64 a0)) ∧ IntKind.wrap .u64 (0 - (IntKind.wrap .u64 a0)) < 18446744073709551616 := Zafe _
  refine tB (Zz9 (IntKind.wrap .u64 (0 - (IntKind.wrap .u64 a0))) cl cl) (fun x4 h5 => ?_)
  replace h5 : (SzN x4) ∧ (x4.length ≤ 40) := h5
  have eh5_1 := h5.2
  try simp only [List.length_nil, List.length_cons, Nat.zero_add] at eh5_1
  have q6 : x4.length ≤ 100 := h5.1
  refine tB (tK (by first | (simp only [List.length_append, List.length_cons, List.length_nil]; omega) | omega)) (fun x7 h8 => ?_)
  exact tR (by unfold SzN; first | omega | (simp only [List.length_append, List.length_cons, List.length_nil]; omega))
 ·have q9 : 0 ≤ IntKind.wrap .u64 a0 ∧ IntKind.wrap .u64 a0 < 18446744073709551616 := Zafe _
  refine tB (Zz9 (IntKind.wrap .u64 a0) cl cl) (fun x10 h11 => ?_)
  replace h11 : (SzN x10) ∧ (x10.length ≤ 40) := h11
  have eh11_1 := h11.2
  try simp only [List.length_nil, List.length_cons, Nat.zero_add] at eh11_1
  exact tR h11.1
theorem Zm1 (a0 : (List UInt8)) (a1 : Zc) (oa0 : SzN a0) (h0 : 0 ≤ a1.Kind) (h1 : a1.Kind ≤ 3) : Tot (Zsv a0 a1) (fun r => (SzT r)) := by
 unfold Zsv
 refine tZ ?_
 have lb_a0 : a0.length ≤ 100 := oa0
 dsimp only [Zxa, LT.den]
 refine tE (fun h1 => ?_) (fun h1 => ?_)
 ·exact tR (SzT.nil)
 ·refine tB (Zag9) (fun x2 h3 => ?_)
  replace h3 : ((SzL 16 SzN) x2) ∧ (x2.length = 4) := h3
  have eh3_1 := h3.2
  try simp only [List.length_nil, List.length_cons, Nat.zero_add] at eh3_1
  refine tB (tI (by omega) (by omega)) (fun x4 h5 => ?_)
  have oh5 : SzN x4 := h3.1.2 x4 h5.1
  have q6 : a0.length ≤ 100 := oa0
  have q7 : x4.length ≤ 100 := oh5
  refine tB (tK (by first | (simp only [List.length_append, List.length_cons, List.length_nil]; omega) | omega)) (fun x8 h9 => ?_)
  refine tB (Zja a1.N) (fun x10 h11 => ?_)
  replace h11 : (SzN x10) := h11
  have q12 : x10.length ≤ 100 := h11
  refine tB (tK (by first | (simp only [List.length_append, List.length_cons, List.length_nil]; omega) | omega)) (fun x13 h14 => ?_)
  exact tR (by unfold SzT; first | omega | (simp only [List.length_append, List.length_cons, List.length_nil]; omega))
def Z42 : Zpi → Prop
 | .L0 v0 v1 v5 v6 => ((SzL 16 SzT) v0) ∧ (SzN v1) ∧ (0 ≤ v6) ∧ (v5.length ≤ 1125899906842624 * v6.toNat) ∧ (v0.length ≤ 100) ∧ (v6 ≤ v0.length)
def Znr : Zpi → M6
 | .L0 v0 v1 v5 v6 => (1, ((v0.length : Int) - v6).toNat, 1000000, 0, 0, 0)
theorem Zado (v0 : (List (List UInt8))) (v1 : (List UInt8)) (v5 : (List UInt8)) (v6 : Int) (h : ((SzL 16 SzT) v0) ∧ (SzN v1) ∧ (0 ≤ v6) ∧ (v5.length ≤ 1125899906842624 * v6.toNat) ∧ (v0.length ≤ 100) ∧ (v6 ≤ v0.length)) : Tot (Zyc v0 v1 v5 v6).den (Nx Z42 Znr (1, ((v0.length : Int) - v6).toNat, 1000000, 0, 0, 0) (fun r => (r.length ≤ 144115188075855872))) := by
 obtain ⟨ov0, ov1, cv6, i0, i1, i2⟩ := h
 have lb_v0 : v0.length * 16 ≤ 140737488351232 := ov0.1
 have lb_v1 : v1.length ≤ 100 := ov1
 dsimp only [Zyc, LT.den]
 have q1 : v0.length * 16 ≤ 140737488351232 := ov0.1
 refine tD (fun h2 => ?_) (fun h2 => ?_)
 ·refine tD (fun h3 => ?_) (fun h3 => ?_)
  ·have q4 : v1.length ≤ 100 := ov1
   refine tB (tK (by first | (simp only [List.length_append, List.length_cons, List.length_nil]; omega) | omega)) (fun x5 h6 => ?_)
   refine tB (tI (by omega) (by omega)) (fun x7 h8 => ?_)
   have oh8 : SzT x7 := ov0.2 x7 h8.1
   have q9 : x7.length ≤ 562949953421312 := oh8
   refine tB (tK (by first | (simp only [List.length_append, List.length_cons, List.length_nil]; omega) | omega)) (fun x10 h11 => ?_)
   have q12 : -9223372036854775808 ≤ (v6 + 1) → (v6 + 1) < 9223372036854775808 → IntKind.wrap .i64 (v6 + 1) = (v6 + 1) := Zao _
   have q13 : -9223372036854775808 ≤ IntKind.wrap .i64 (v6 + 1) ∧ IntKind.wrap .i64 (v6 + 1) < 9223372036854775808 := Zap _
   exact tL ⟨ov0, ov1, cl, cl, cl, cl⟩ (by unfold Znr lt6; dsimp only; omega)
  ·refine tB (tI (by omega) (by omega)) (fun x14 h15 => ?_)
   have oh15 : SzT x14 := ov0.2 x14 h15.1
   have q16 : x14.length ≤ 562949953421312 := oh15
   refine tB (tK (by first | (simp only [List.length_append, List.length_cons, List.length_nil]; omega) | omega)) (fun x17 h18 => ?_)
   have q19 : -9223372036854775808 ≤ (v6 + 1) → (v6 + 1) < 9223372036854775808 → IntKind.wrap .i64 (v6 + 1) = (v6 + 1) := Zao _
   have q20 : -9223372036854775808 ≤ IntKind.wrap .i64 (v6 + 1) ∧ IntKind.wrap .i64 (v6 + 1) < 9223372036854775808 := Zap _
   exact tL ⟨ov0, ov1, cl, cl, cl, cl⟩ (by unfold Znr lt6; dsimp only; omega)
 ·exact tR cl
theorem Zalh (a0 : (List (List UInt8))) (a1 : (List UInt8)) (oa0 : (SzL 16 SzT) a0) (oa1 : SzN a1) (h0 : a0.length ≤ 100) : Tot (Z83 a0 a1) (fun r => (r.length ≤ 144115188075855872)) := by
 unfold Z83
 refine tX (Inv := Z42) (μ := Znr) (m := (1000000, 0, 0, 0, 0, 0)) ?_ ?_
 ·have lb_a0 : a0.length * 16 ≤ 140737488351232 := oa0.1
  have lb_a1 : a1.length ≤ 100 := oa1
  dsimp only [Zabo, LT.den]
  exact tL ⟨oa0, oa1, cl, cl, cl, cl⟩ (by unfold Znr lt6; dsimp only; omega)
 ·intro s hs
  cases s with
  | L0 v0 v1 v5 v6 => exact Zado v0 v1 v5 v6 hs
theorem Zf4 (b0 : (List (List UInt8))) (a1 : (List UInt8)) (ob0 : (SzL 16 SzT) b0) (oa1 : SzT a1) (h0 : b0.length ≤ 1000) : Tot (Zvf b0 a1) (fun r => ((SzL 16 SzT) r) ∧ (r.length ≤ b0.length + 1)) := by
 unfold Zvf
 refine tZ ?_
 have lb_b0 : b0.length * 16 ≤ 140737488351232 := ob0.1
 have lb_a1 : a1.length ≤ 562949953421312 := oa1
 dsimp only [Zzo, LT.den]
 refine tF (fun h1 => ?_) (fun h1 => ?_)
 ·exact tR ⟨ob0, cl⟩
 ·have q2 : (SzL 16 SzT) ([a1] : (List (List UInt8))) := ⟨by simp only [List.length_cons, List.length_nil]; omega, (mem_cons' oa1 (fun _ h => by cases h))⟩
  refine tB ((by have q5 : b0.length * 16 ≤ 140737488351232 := ob0.1; have q6 : [a1].length * 16 ≤ 140737488351232 := q2.1;  exact tA (by first | omega | (simp only [List.length_cons, List.length_nil]; omega)) (by decide))) (fun x3 h4 => ?_)
  have lh4 : x3.length = b0.length + [a1].length := by rw [h4, List.length_append]
  try simp only [List.length_cons, List.length_nil, Nat.zero_add] at lh4
  exact tR ⟨(SzL.app h4 (by omega) ob0.2 q2.2), cl⟩
def Zh2 : Zg9 → Prop
 | .L0 E0 v6 v7 v8 => (Za9 E0) ∧ ((SzL 16 SzN) v6) ∧ ((SzL 16 SzT) v7) ∧ (0 ≤ v8) ∧ (v7.length ≤ 3 + v8.toNat) ∧ (v8 ≤ 6) ∧ (v6.length = 3) ∧ (0 ≤ E0.Tap ∧ E0.Tap ≤ 2 ∧ 0 ≤ E0.Power.Kind ∧ E0.Power.Kind ≤ 3 ∧ 0 ≤ E0.Tough.Kind ∧ E0.Tough.Kind ≤ 3 ∧ 0 ≤ E0.Value.Kind ∧ E0.Value.Kind ≤ 3)
 | .L1 E0 v6 v7 v9 => (Za9 E0) ∧ ((SzL 16 SzN) v6) ∧ ((SzL 16 SzT) v7) ∧ (0 ≤ v9) ∧ (v7.length ≤ 9 + v9.toNat) ∧ (v9 ≤ 6) ∧ (v6.length = 3) ∧ (0 ≤ E0.Tap ∧ E0.Tap ≤ 2 ∧ 0 ≤ E0.Power.Kind ∧ E0.Power.Kind ≤ 3 ∧ 0 ≤ E0.Tough.Kind ∧ E0.Tough.Kind ≤ 3 ∧ 0 ≤ E0.Value.Kind ∧ E0.Value.Kind ≤ 3)
 | .L2 E0 v6 v7 v10 => (Za9 E0) ∧ ((SzL 16 SzN) v6) ∧ ((SzL 16 SzT) v7) ∧ (0 ≤ v10) ∧ (v7.length ≤ 15 + v10.toNat) ∧ (v10 ≤ 5) ∧ (v6.length = 3) ∧ (0 ≤ E0.Tap ∧ E0.Tap ≤ 2 ∧ 0 ≤ E0.Power.Kind ∧ E0.Power.Kind ≤ 3 ∧ 0 ≤ E0.Tough.Kind ∧ E0.Tough.Kind ≤ 3 ∧ 0 ≤ E0.Value.Kind ∧ E0.Value.Kind ≤ 3)
 | .L3 E0 v6 v7 v11 => (Za9 E0) ∧ ((SzL 16 SzN) v6) ∧ ((SzL 16 SzT) v7) ∧ (0 ≤ v11) ∧ (v7.length ≤ 20 + v11.toNat) ∧ (v11 ≤ 5) ∧ (v6.length = 3) ∧ (0 ≤ E0.Tap ∧ E0.Tap ≤ 2 ∧ 0 ≤ E0.Power.Kind ∧ E0.Power.Kind ≤ 3 ∧ 0 ≤ E0.Tough.Kind ∧ E0.Tough.Kind ≤ 3 ∧ 0 ≤ E0.Value.Kind ∧ E0.Value.Kind ≤ 3)
 | .L4 E0 v6 v7 => (Za9 E0) ∧ ((SzL 16 SzN) v6) ∧ ((SzL 16 SzT) v7) ∧ (v7.length ≤ 26) ∧ (v6.length = 3) ∧ (0 ≤ E0.Tap ∧ E0.Tap ≤ 2 ∧ 0 ≤ E0.Power.Kind ∧ E0.Power.Kind ≤ 3 ∧ 0 ≤ E0.Tough.Kind ∧ E0.Tough.Kind ≤ 3 ∧ 0 ≤ E0.Value.Kind ∧ E0.Value.Kind ≤ 3)
 | .L5 E0 v6 v7 v12 => (Za9 E0) ∧ ((SzL 16 SzN) v6) ∧ ((SzL 16 SzT) v7) ∧ (0 ≤ v12) ∧ (v7.length ≤ 26 + v12.toNat) ∧ (v12 ≤ 17) ∧ (v6.length = 3) ∧ (0 ≤ E0.Tap ∧ E0.Tap ≤ 2 ∧ 0 ≤ E0.Power.Kind ∧ E0.Power.Kind ≤ 3 ∧ 0 ≤ E0.Tough.Kind ∧ E0.Tough.Kind ≤ 3 ∧ 0 ≤ E0.Value.Kind ∧ E0.Value.Kind ≤ 3)
def Zb3 : Zg9 → M6
 | .L0 E0 v6 v7 v8 => (9, (6 - v8).toNat, 1000000, 0, 0, 0)
 | .L1 E0 v6 v7 v9 => (7, (6 - v9).toNat, 1000000, 0, 0, 0)
 | .L2 E0 v6 v7 v10 => (5, (5 - v10).toNat, 1000000, 0, 0, 0)
 | .L3 E0 v6 v7 v11 => (3, (5 - v11).toNat, 1000000, 0, 0, 0)
 | .L4 E0 v6 v7 => (2, 0, 0, 0, 0, 0)
 | .L5 E0 v6 v7 v12 => (1, (17 - v12).toNat, 1000000, 0, 0, 0)
theorem Zp6 (E0 : Zh) (v6 : (List (List UInt8))) (v7 : (List (List UInt8))) (h : (Za9 E0) ∧ ((SzL 16 SzN) v6) ∧ ((SzL 16 SzT) v7) ∧ (v7.length ≤ 26) ∧ (v6.length = 3) ∧ (0 ≤ E0.Tap ∧ E0.Tap ≤ 2 ∧ 0 ≤ E0.Power.Kind ∧ E0.Power.Kind ≤ 3 ∧ 0 ≤ E0.Tough.Kind ∧ E0.Tough.Kind ≤ 3 ∧ 0 ≤ E0.Value.Kind ∧ E0.Value.Kind ≤ 3)) : Tot (Zm8 E0 v6 v7).den (Nx Zh2 Zb3 (2, 0, 0, 0, 0, 0) (fun r => (r.length ≤ 144115188075855872))) := by
 obtain ⟨ob30000000, ov6, ov7, i0, i1, i2⟩ := h
 have lb_v6 : v6.length * 16 ≤ 140737488351232 := ov6.1
 have lb_v7 : v7.length * 16 ≤ 140737488351232 := ov7.1
 dsimp only [Zm8, LT.den]
 exact tL ⟨ob30000000, ov6, ov7, cl, cl, cl, cl, cl⟩ (by unfold Zb3 lt6; dsimp only; omega)
theorem Zadp (E0 : Zh) (v6 : (List (List UInt8))) (v7 : (List (List UInt8))) (v8 : Int) (h : (Za9 E0) ∧ ((SzL 16 SzN) v6) ∧ ((SzL 16 SzT) v7) ∧ (0 ≤ v8) ∧ (v7.length ≤ 3 + v8.toNat) ∧ (v8 ≤ 6) ∧ (v6.length = 3) ∧ (0 ≤ E0.Tap ∧ E0.Tap ≤ 2 ∧ 0 ≤ E0.Power.Kind ∧ E0.Power.Kind ≤ 3 ∧ 0 ≤ E0.Tough.Kind ∧ E0.Tough.Kind ≤ 3 ∧ 0 ≤ E0.Value.Kind ∧ E0.Value.Kind ≤ 3)) : Tot (Zyd E0 v6 v7 v8).den (Nx Zh2 Zb3 (9, (6 - v8).toNat, 1000000, 0, 0, 0) (fun r => (r.length ≤ 144115188075855872))) := by
 obtain ⟨ob30000000, ov6, ov7, cv8, i0, i1, i2, i3⟩ := h
 have lb_v6 : v6.length * 16 ≤ 140737488351232 := ov6.1
 have lb_v7 : v7.length * 16 ≤ 140737488351232 := ov7.1
 dsimp only [Zyd, LT.den]
 refine tD (fun h1 => ?_) (fun h1 => ?_)
 ·refine tB (Znq E0.Types v8 cl) (fun x2 h3 => ?_)
  refine tF (fun h4 => ?_) (fun h4 => ?_)
  ·refine tB (Zwg v8 cl) (fun x5 h6 => ?_)
   replace h6 : (SzT x5) ∧ (x5.length ≤ 20000) := h6
   have eh6_1 := h6.2
   try simp only [List.length_nil, List.length_cons, Nat.zero_add] at eh6_1
   have q7 : (SzL 16 SzT) ([x5] : (List (List UInt8))) := ⟨by simp only [List.length_cons, List.length_nil]; omega, (mem_cons' h6.1 (fun _ h => by cases h))⟩
   refine tB ((by have q10 : v7.length * 16 ≤ 140737488351232 := ov7.1; have q11 : [x5].length * 16 ≤ 140737488351232 := q7.1;  exact tA (by first | omega | (simp only [List.length_cons, List.length_nil]; omega)) (by decide))) (fun x8 h9 => ?_)
   have lh9 : x8.length = v7.length + [x5].length := by rw [h9, List.length_append]
   try simp only [List.length_cons, List.length_nil, Nat.zero_add] at lh9
   have q12 : -9223372036854775808 ≤ (v8 + 1) → (v8 + 1) < 9223372036854775808 → IntKind.wrap .i64 (v8 + 1) = (v8 + 1) := Zao _
   have q13 : -9223372036854775808 ≤ IntKind.wrap .i64 (v8 + 1) ∧ IntKind.wrap .i64 (v8 + 1) < 9223372036854775808 := Zap _
   exact tL ⟨ob30000000, ov6, (SzL.app h9 (by omega) ov7.2 q7.2), cl, cl, cl, cl, cl⟩ (by unfold Zb3 lt6; dsimp only; omega)
  ·have q14 : -9223372036854775808 ≤ (v8 + 1) → (v8 + 1) < 9223372036854775808 → IntKind.wrap .i64 (v8 + 1) = (v8 + 1) := Zao _
   have q15 : -9223372036854775808 ≤ IntKind.wrap .i64 (v8 + 1) ∧ IntKind.wrap .i64 (v8 + 1) < 9223372036854775808 := Zap _
   exact tL ⟨ob30000000, ov6, ov7, cl, cl, cl, cl, cl⟩ (by unfold Zb3 lt6; dsimp only; omega)
 ·exact tL ⟨ob30000000, ov6, ov7, cl, cl, cl, cl, cl⟩ (by unfold Zb3 lt6; dsimp only; omega)
theorem Zadq (E0 : Zh) (v6 : (List (List UInt8))) (v7 : (List (List UInt8))) (v9 : Int) (h : (Za9 E0) ∧ ((SzL 16 SzN) v6) ∧ ((SzL 16 SzT) v7) ∧ (0 ≤ v9) ∧ (v7.length ≤ 9 + v9.toNat) ∧ (v9 ≤ 6) ∧ (v6.length = 3) ∧ (0 ≤ E0.Tap ∧ E0.Tap ≤ 2 ∧ 0 ≤ E0.Power.Kind ∧ E0.Power.Kind ≤ 3 ∧ 0 ≤ E0.Tough.Kind ∧ E0.Tough.Kind ≤ 3 ∧ 0 ≤ E0.Value.Kind ∧ E0.Value.Kind ≤ 3)) : Tot (Zye E0 v6 v7 v9).den (Nx Zh2 Zb3 (7, (6 - v9).toNat, 1000000, 0, 0, 0) (fun r => (r.length ≤ 144115188075855872))) := by
 obtain ⟨ob30000000, ov6, ov7, cv9, i0, i1, i2, i3⟩ := h
 have lb_v6 : v6.length * 16 ≤ 140737488351232 := ov6.1
 have lb_v7 : v7.length * 16 ≤ 140737488351232 := ov7.1
 dsimp only [Zye, LT.den]
 refine tD (fun h1 => ?_) (fun h1 => ?_)
 ·refine tB (Znq E0.NotTypes v9 cl) (fun x2 h3 => ?_)
  refine tF (fun h4 => ?_) (fun h4 => ?_)
  ·refine tB (Zwg v9 cl) (fun x5 h6 => ?_)
   replace h6 : (SzT x5) ∧ (x5.length ≤ 20000) := h6
   have eh6_1 := h6.2
   try simp only [List.length_nil, List.length_cons, Nat.zero_add] at eh6_1
   have q7 : x5.length ≤ 562949953421312 := h6.1
   refine tB (tK (by first | (simp only [List.length_append, List.length_cons, List.length_nil]; omega) | omega)) (fun x8 h9 => ?_)
   have q10 : (SzL 16 SzT) ([(([110, 111, 110, 45] : List UInt8) ++ x5)] : (List (List UInt8))) := ⟨by simp only [List.length_cons, List.length_nil]; omega, (mem_cons' (by unfold SzT; first | omega | (simp only [List.length_append, List.length_cons, List.length_nil]; omega)) (fun _ h => by cases h))⟩
   refine tB ((by have q13 : v7.length * 16 ≤ 140737488351232 := ov7.1; have q14 : [(([110, 111, 110, 45] : List UInt8) ++ x5)].length * 16 ≤ 140737488351232 := q10.1;  exact tA (by first | omega | (simp only [List.length_cons, List.length_nil]; omega)) (by decide))) (fun x11 h12 => ?_)
   have lh12 : x11.length = v7.length + [(([110, 111, 110, 45] : List UInt8) ++ x5)].length := by rw [h12, List.length_append]
   try simp only [List.length_cons, List.length_nil, Nat.zero_add] at lh12
   have q15 : -9223372036854775808 ≤ (v9 + 1) → (v9 + 1) < 9223372036854775808 → IntKind.wrap .i64 (v9 + 1) = (v9 + 1) := Zao _
   have q16 : -9223372036854775808 ≤ IntKind.wrap .i64 (v9 + 1) ∧ IntKind.wrap .i64 (v9 + 1) < 9223372036854775808 := Zap _
   exact tL ⟨ob30000000, ov6, (SzL.app h12 (by omega) ov7.2 q10.2), cl, cl, cl, cl, cl⟩ (by unfold Zb3 lt6; dsimp only; omega)
  ·have q17 : -9223372036854775808 ≤ (v9 + 1) → (v9 + 1) < 9223372036854775808 → IntKind.wrap .i64 (v9 + 1) = (v9 + 1) := Zao _
   have q18 : -9223372036854775808 ≤ IntKind.wrap .i64 (v9 + 1) ∧ IntKind.wrap .i64 (v9 + 1) < 9223372036854775808 := Zap _
   exact tL ⟨ob30000000, ov6, ov7, cl, cl, cl, cl, cl⟩ (by unfold Zb3 lt6; dsimp only; omega)
 ·exact tL ⟨ob30000000, ov6, ov7, cl, cl, cl, cl, cl⟩ (by unfold Zb3 lt6; dsimp only; omega)
theorem Zadr (E0 : Zh) (v6 : (List (List UInt8))) (v7 : (List (List UInt8))) (v10 : Int) (h : (Za9 E0) ∧ ((SzL 16 SzN) v6) ∧ ((SzL 16 SzT) v7) ∧ (0 ≤ v10) ∧ (v7.length ≤ 15 + v10.toNat) ∧ (v10 ≤ 5) ∧ (v6.length = 3) ∧ (0 ≤ E0.Tap ∧ E0.Tap ≤ 2 ∧ 0 ≤ E0.Power.Kind ∧ E0.Power.Kind ≤ 3 ∧ 0 ≤ E0.Tough.Kind ∧ E0.Tough.Kind ≤ 3 ∧ 0 ≤ E0.Value.Kind ∧ E0.Value.Kind ≤ 3)) : Tot (Zyf E0 v6 v7 v10).den (Nx Zh2 Zb3 (5, (5 - v10).toNat, 1000000, 0, 0, 0) (fun r => (r.length ≤ 144115188075855872))) := by
 obtain ⟨ob30000000, ov6, ov7, cv10, i0, i1, i2, i3⟩ := h
 have lb_v6 : v6.length * 16 ≤ 140737488351232 := ov6.1
 have lb_v7 : v7.length * 16 ≤ 140737488351232 := ov7.1
 dsimp only [Zyf, LT.den]
 refine tD (fun h1 => ?_) (fun h1 => ?_)
 ·refine tB (Znq E0.Colors v10 cl) (fun x2 h3 => ?_)
  refine tF (fun h4 => ?_) (fun h4 => ?_)
  ·refine tB (Zp5 v10) (fun x5 h6 => ?_)
   replace h6 : (SzN x5) := h6
   have q7 : (SzL 16 SzN) ([x5] : (List (List UInt8))) := ⟨by simp only [List.length_cons, List.length_nil]; omega, (mem_cons' h6 (fun _ h => by cases h))⟩
   refine tB ((by have q10 : v7.length * 16 ≤ 140737488351232 := ov7.1; have q11 : [x5].length * 16 ≤ 140737488351232 := (SzL.nt q7).1;  exact tA (by first | omega | (simp only [List.length_cons, List.length_nil]; omega)) (by decide))) (fun x8 h9 => ?_)
   have lh9 : x8.length = v7.length + [x5].length := by rw [h9, List.length_append]
   try simp only [List.length_cons, List.length_nil, Nat.zero_add] at lh9
   have q12 : -9223372036854775808 ≤ (v10 + 1) → (v10 + 1) < 9223372036854775808 → IntKind.wrap .i64 (v10 + 1) = (v10 + 1) := Zao _
   have q13 : -9223372036854775808 ≤ IntKind.wrap .i64 (v10 + 1) ∧ IntKind.wrap .i64 (v10 + 1) < 9223372036854775808 := Zap _
   exact tL ⟨ob30000000, ov6, (SzL.app h9 (by omega) ov7.2 (SzL.nt q7).2), cl, cl, cl, cl, cl⟩ (by unfold Zb3 lt6; dsimp only; omega)
  ·have q14 : -9223372036854775808 ≤ (v10 + 1) → (v10 + 1) < 9223372036854775808 → IntKind.wrap .i64 (v10 + 1) = (v10 + 1) := Zao _
   have q15 : -9223372036854775808 ≤ IntKind.wrap .i64 (v10 + 1) ∧ IntKind.wrap .i64 (v10 + 1) < 9223372036854775808 := Zap _
   exact tL ⟨ob30000000, ov6, ov7, cl, cl, cl, cl, cl⟩ (by unfold Zb3 lt6; dsimp only; omega)
 ·exact tL ⟨ob30000000, ov6, ov7, cl, cl, cl, cl, cl⟩ (by unfold Zb3 lt6; dsimp only; omega)
theorem Zads (E0 : Zh) (v6 : (List (List UInt8))) (v7 : (List (List UInt8))) (v11 : Int) (h : (Za9 E0) ∧ ((SzL 16 SzN) v6) ∧ ((SzL 16 SzT) v7) ∧ (0 ≤ v11) ∧ (v7.length ≤ 20 + v11.toNat) ∧ (v11 ≤ 5) ∧ (v6.length = 3) ∧ (0 ≤ E0.Tap ∧ E0.Tap ≤ 2 ∧ 0 ≤ E0.Power.Kind ∧ E0.Power.Kind ≤ 3 ∧ 0 ≤ E0.Tough.Kind ∧ E0.Tough.Kind ≤ 3 ∧ 0 ≤ E0.Value.Kind ∧ E0.Value.Kind ≤ 3)) : Tot (Zyg E0 v6 v7 v11).den (Nx Zh2 Zb3 (3, (5 - v11).toNat, 1000000, 0, 0, 0) (fun r => (r.length ≤ 144115188075855872))) := by
 obtain ⟨ob30000000, ov6, ov7, cv11, i0, i1, i2, i3⟩ := h
 have lb_v6 : v6.length * 16 ≤ 140737488351232 := ov6.1
 have lb_v7 : v7.length * 16 ≤ 140737488351232 := ov7.1
 dsimp only [Zyg, LT.den]
 refine tD (fun h1 => ?_) (fun h1 => ?_)
 ·refine tB (Znq E0.NotColors v11 cl) (fun x2 h3 => ?_)
  refine tF (fun h4 => ?_) (fun h4 => ?_)
  ·refine tB (Zp5 v11) (fun x5 h6 => ?_)
   replace h6 : (SzN x5) := h6
   have q7 : x5.length ≤ 100 := h6
   refine tB (tK (by first | (simp only [List.length_append, List.length_cons, List.length_nil]; omega) | omega)) (fun x8 h9 => ?_)
   have q10 : (SzL 16 SzT) ([(([110, 111, 110, 45] : List UInt8) ++ x5)] : (List (List UInt8))) := ⟨by simp only [List.length_cons, List.length_nil]; omega, (mem_cons' (by unfold SzT; first | omega | (simp only [List.length_append, List.length_cons, List.length_nil]; omega)) (fun _ h => by cases h))⟩
   refine tB ((by have q13 : v7.length * 16 ≤ 140737488351232 := ov7.1; have q14 : [(([110, 111, 110, 45] : List UInt8) ++ x5)].length * 16 ≤ 140737488351232 := q10.1;  exact tA (by first | omega | (simp only [List.length_cons, List.length_nil]; omega)) (by decide))) (fun x11 h12 => ?_)
   have lh12 : x11.length = v7.length + [(([110, 111, 110, 45] : List UInt8) ++ x5)].length := by rw [h12, List.length_append]
   try simp only [List.length_cons, List.length_nil, Nat.zero_add] at lh12
   have q15 : -9223372036854775808 ≤ (v11 + 1) → (v11 + 1) < 9223372036854775808 → IntKind.wrap .i64 (v11 + 1) = (v11 + 1) := Zao _
   have q16 : -9223372036854775808 ≤ IntKind.wrap .i64 (v11 + 1) ∧ IntKind.wrap .i64 (v11 + 1) < 9223372036854775808 := Zap _
   exact tL ⟨ob30000000, ov6, (SzL.app h12 (by omega) ov7.2 q10.2), cl, cl, cl, cl, cl⟩ (by unfold Zb3 lt6; dsimp only; omega)
  ·have q17 : -9223372036854775808 ≤ (v11 + 1) → (v11 + 1) < 9223372036854775808 → IntKind.wrap .i64 (v11 + 1) = (v11 + 1) := Zao _
   have q18 : -9223372036854775808 ≤ IntKind.wrap .i64 (v11 + 1) ∧ IntKind.wrap .i64 (v11 + 1) < 9223372036854775808 := Zap _
   exact tL ⟨ob30000000, ov6, ov7, cl, cl, cl, cl, cl⟩ (by unfold Zb3 lt6; dsimp only; omega)
 ·refine tO (fun h19 => ?_) (fun h19 => ?_)
  ·have q20 : E0.Sub.length ≤ 281474976710656 := ob30000000
   refine tB (tK (by first | (simp only [List.length_append, List.length_cons, List.length_nil]; omega) | omega)) (fun x21 h22 => ?_)
   have q23 : (SzL 16 SzT) ([(([115, 117, 98, 58] : List UInt8) ++ E0.Sub)] : (List (List UInt8))) := ⟨by simp only [List.length_cons, List.length_nil]; omega, (mem_cons' (by unfold SzT; first | omega | (simp only [List.length_append, List.length_cons, List.length_nil]; omega)) (fun _ h => by cases h))⟩
   refine tB ((by have q26 : v7.length * 16 ≤ 140737488351232 := ov7.1; have q27 : [(([115, 117, 98, 58] : List UInt8) ++ E0.Sub)].length * 16 ≤ 140737488351232 := q23.1;  exact tA (by first | omega | (simp only [List.length_cons, List.length_nil]; omega)) (by decide))) (fun x24 h25 => ?_)
   have lh25 : x24.length = v7.length + [(([115, 117, 98, 58] : List UInt8) ++ E0.Sub)].length := by rw [h25, List.length_append]
   try simp only [List.length_cons, List.length_nil, Nat.zero_add] at lh25
   exact tJ (Zp6 E0 v6 x24 ⟨ob30000000, ov6, (SzL.app h25 (by omega) ov7.2 q23.2), cl, cl, cl⟩)
  ·exact tJ (Zp6 E0 v6 v7 ⟨ob30000000, ov6, ov7, cl, cl, cl⟩)
theorem Zadt (E0 : Zh) (v6 : (List (List UInt8))) (v7 : (List (List UInt8))) (v12 : Int) (h : (Za9 E0) ∧ ((SzL 16 SzN) v6) ∧ ((SzL 16 SzT) v7) ∧ (0 ≤ v12) ∧ (v7.length ≤ 26 + v12.toNat) ∧ (v12 ≤ 17) ∧ (v6.length = 3) ∧ (0 ≤ E0.Tap ∧ E0.Tap ≤ 2 ∧ 0 ≤ E0.Power.Kind ∧ E0.Power.Kind ≤ 3 ∧ 0 ≤ E0.Tough.Kind ∧ E0.Tough.Kind ≤ 3 ∧ 0 ≤ E0.Value.Kind ∧ E0.Value.Kind ≤ 3)) : Tot (Zyh E0 v6 v7 v12).den (Nx Zh2 Zb3 (1, (17 - v12).toNat, 1000000, 0, 0, 0) (fun r => (r.length ≤ 144115188075855872))) := by
 obtain ⟨ob30000000, ov6, ov7, cv12, i0, i1, i2, i3⟩ := h
 have lb_v6 : v6.length * 16 ≤ 140737488351232 := ov6.1
 have lb_v7 : v7.length * 16 ≤ 140737488351232 := ov7.1
 dsimp only [Zyh, LT.den]
 refine tD (fun h1 => ?_) (fun h1 => ?_)
 ·refine tB (Znq E0.Keys v12 cl) (fun x2 h3 => ?_)
  refine tF (fun h4 => ?_) (fun h4 => ?_)
  ·refine tB (Zwe v12) (fun x5 h6 => ?_)
   replace h6 : (SzN x5) := h6
   have q7 : x5.length ≤ 100 := h6
   refine tB (tK (by first | (simp only [List.length_append, List.length_cons, List.length_nil]; omega) | omega)) (fun x8 h9 => ?_)
   have q10 : (SzL 16 SzT) ([(([119, 105, 116, 104, 58] : List UInt8) ++ x5)] : (List (List UInt8))) := ⟨by simp only [List.length_cons, List.length_nil]; omega, (mem_cons' (by unfold SzT; first | omega | (simp only [List.length_append, List.length_cons, List.length_nil]; omega)) (fun _ h => by cases h))⟩
   refine tB ((by have q13 : v7.length * 16 ≤ 140737488351232 := ov7.1; have q14 : [(([119, 105, 116, 104, 58] : List UInt8) ++ x5)].length * 16 ≤ 140737488351232 := q10.1;  exact tA (by first | omega | (simp only [List.length_cons, List.length_nil]; omega)) (by decide))) (fun x11 h12 => ?_)
   have lh12 : x11.length = v7.length + [(([119, 105, 116, 104, 58] : List UInt8) ++ x5)].length := by rw [h12, List.length_append]
   try simp only [List.length_cons, List.length_nil, Nat.zero_add] at lh12
   have q15 : -9223372036854775808 ≤ (v12 + 1) → (v12 + 1) < 9223372036854775808 → IntKind.wrap .i64 (v12 + 1) = (v12 + 1) := Zao _
   have q16 : -9223372036854775808 ≤ IntKind.wrap .i64 (v12 + 1) ∧ IntKind.wrap .i64 (v12 + 1) < 9223372036854775808 := Zap _
   exact tL ⟨ob30000000, ov6, (SzL.app h12 (by omega) ov7.2 q10.2), cl, cl, cl, cl, cl⟩ (by unfold Zb3 lt6; dsimp only; omega)
  ·have q17 : -9223372036854775808 ≤ (v12 + 1) → (v12 + 1) < 9223372036854775808 → IntKind.wrap .i64 (v12 + 1) = (v12 + 1) := Zao _
   have q18 : -9223372036854775808 ≤ IntKind.wrap .i64 (v12 + 1) ∧ IntKind.wrap .i64 (v12 + 1) < 9223372036854775808 := Zap _
   exact tL ⟨ob30000000, ov6, ov7, cl, cl, cl, cl, cl⟩ (by unfold Zb3 lt6; dsimp only; omega)
 ·refine tB (tI (by omega) (by omega)) (fun x19 h20 => ?_)
  have oh20 : SzN x19 := ov6.2 x19 h20.1
  refine tB (Zf4 v7 x19 ov7 (SzN.t oh20) cl) (fun x21 h22 => ?_)
  replace h22 : ((SzL 16 SzT) x21) ∧ (x21.length ≤ v7.length + 1) := h22
  have eh22_1 := h22.2
  try simp only [List.length_nil, List.length_cons, Nat.zero_add] at eh22_1
  refine tB (Zm1 ([112, 111, 119, 101, 114] : List UInt8) E0.Power (by unfold SzN; first | omega | (simp only [List.length_append, List.length_cons, List.length_nil]; omega)) cl cl) (fun x23 h24 => ?_)
  replace h24 : (SzT x23) := h24
  refine tB (Zf4 x21 x23 h22.1 h24 cl) (fun x25 h26 => ?_)
  replace h26 : ((SzL 16 SzT) x25) ∧ (x25.length ≤ x21.length + 1) := h26
  have eh26_1 := h26.2
  try simp only [List.length_nil, List.length_cons, Nat.zero_add] at eh26_1
  refine tB (Zm1 ([116, 111, 117, 103, 104] : List UInt8) E0.Tough (by unfold SzN; first | omega | (simp only [List.length_append, List.length_cons, List.length_nil]; omega)) cl cl) (fun x27 h28 => ?_)
  replace h28 : (SzT x27) := h28
  refine tB (Zf4 x25 x27 h26.1 h28 cl) (fun x29 h30 => ?_)
  replace h30 : ((SzL 16 SzT) x29) ∧ (x29.length ≤ x25.length + 1) := h30
  have eh30_1 := h30.2
  try simp only [List.length_nil, List.length_cons, Nat.zero_add] at eh30_1
  refine tB (Zm1 ([118, 97, 108, 117, 101] : List UInt8) E0.Value (by unfold SzN; first | omega | (simp only [List.length_append, List.length_cons, List.length_nil]; omega)) cl cl) (fun x31 h32 => ?_)
  replace h32 : (SzT x31) := h32
  refine tB (Zf4 x29 x31 h30.1 h32 cl) (fun x33 h34 => ?_)
  replace h34 : ((SzL 16 SzT) x33) ∧ (x33.length ≤ x29.length + 1) := h34
  have eh34_1 := h34.2
  try simp only [List.length_nil, List.length_cons, Nat.zero_add] at eh34_1
  have q35 : x33.length * 16 ≤ 140737488351232 := h34.1.1
  refine tE (fun h36 => ?_) (fun h36 => ?_)
  ·exact tR cl
  ·refine tB (Zalh x33 ([32] : List UInt8) h34.1 (by unfold SzN; first | omega | (simp only [List.length_append, List.length_cons, List.length_nil]; omega)) cl) (fun x37 h38 => ?_)
   replace h38 : (x37.length ≤ 144115188075855872) := h38
   have eh38_0 := h38
   try simp only [List.length_nil, List.length_cons, Nat.zero_add] at eh38_0
   exact tR cl
theorem Zali (a0 : Zh) (oa0 : Za9 a0) : Tot (Z84 a0) (fun r => (r.length ≤ 144115188075855872)) := by
 unfold Z84
 refine tX (Inv := Zh2) (μ := Zb3) (m := (1000000, 0, 0, 0, 0, 0)) ?_ ?_
 ·dsimp only [Zabq, LT.den]
  refine tB (Zgn a0 oa0) (fun x1 h2 => ?_)
  replace h2 : (x1 = true → 0 ≤ a0.Zone ∧ a0.Zone ≤ 5 ∧ 0 ≤ a0.Who ∧ a0.Who ≤ 2 ∧ 0 ≤ a0.Self ∧ a0.Self ≤ 2 ∧ 0 ≤ a0.Tap ∧ a0.Tap ≤ 2 ∧ 0 ≤ a0.Power.Kind ∧ a0.Power.Kind ≤ 3 ∧ 0 ≤ a0.Tough.Kind ∧ a0.Tough.Kind ≤ 3 ∧ 0 ≤ a0.Value.Kind ∧ a0.Value.Kind ≤ 3) := h2
  have eh2_0 := h2
  refine tO (fun h3 => ?_) (fun h3 => ?_)
  ·exact tR cl
  ·have h3_0 := eh2_0 h3
   refine tB (Z6d) (fun x4 h5 => ?_)
   replace h5 : ((SzL 16 SzN) x4) ∧ (x4.length = 6) := h5
   have eh5_1 := h5.2
   try simp only [List.length_nil, List.length_cons, Nat.zero_add] at eh5_1
   refine tB (Z90) (fun x6 h7 => ?_)
   replace h7 : ((SzL 16 SzN) x6) ∧ (x6.length = 3) := h7
   have eh7_1 := h7.2
   try simp only [List.length_nil, List.length_cons, Nat.zero_add] at eh7_1
   refine tB (Z6e) (fun x8 h9 => ?_)
   replace h9 : ((SzL 16 SzN) x8) ∧ (x8.length = 3) := h9
   have eh9_1 := h9.2
   try simp only [List.length_nil, List.length_cons, Nat.zero_add] at eh9_1
   refine tB (Z91) (fun x10 h11 => ?_)
   replace h11 : ((SzL 16 SzN) x10) ∧ (x10.length = 3) := h11
   have eh11_1 := h11.2
   try simp only [List.length_nil, List.length_cons, Nat.zero_add] at eh11_1
   refine tB (tI (by omega) (by omega)) (fun x12 h13 => ?_)
   have oh13 : SzN x12 := h5.1.2 x12 h13.1
   refine tB (Zf4 ([] : (List (List UInt8))) x12 SzL.nil (SzN.t oh13) cl) (fun x14 h15 => ?_)
   replace h15 : ((SzL 16 SzT) x14) ∧ (x14.length ≤ ([] : (List (List UInt8))).length + 1) := h15
   have eh15_1 := h15.2
   try simp only [List.length_nil, List.length_cons, Nat.zero_add] at eh15_1
   refine tB (tI (by omega) (by omega)) (fun x16 h17 => ?_)
   have oh17 : SzN x16 := h7.1.2 x16 h17.1
   refine tB (Zf4 x14 x16 h15.1 (SzN.t oh17) cl) (fun x18 h19 => ?_)
   replace h19 : ((SzL 16 SzT) x18) ∧ (x18.length ≤ x14.length + 1) := h19
   have eh19_1 := h19.2
   try simp only [List.length_nil, List.length_cons, Nat.zero_add] at eh19_1
   refine tB (tI (by omega) (by omega)) (fun x20 h21 => ?_)
   have oh21 : SzN x20 := h9.1.2 x20 h21.1
   refine tB (Zf4 x18 x20 h19.1 (SzN.t oh21) cl) (fun x22 h23 => ?_)
   replace h23 : ((SzL 16 SzT) x22) ∧ (x22.length ≤ x18.length + 1) := h23
   have eh23_1 := h23.2
   try simp only [List.length_nil, List.length_cons, Nat.zero_add] at eh23_1
   exact tL ⟨oa0, h11.1, h23.1, cl, cl, cl, cl, cl⟩ (by unfold Zb3 lt6; dsimp only; omega)
 ·intro s hs
  cases s with
  | L0 E0 v6 v7 v8 => exact Zadp E0 v6 v7 v8 hs
  | L1 E0 v6 v7 v9 => exact Zadq E0 v6 v7 v9 hs
  | L2 E0 v6 v7 v10 => exact Zadr E0 v6 v7 v10 hs
  | L3 E0 v6 v7 v11 => exact Zads E0 v6 v7 v11 hs
  | L4 E0 v6 v7 => exact Zp6 E0 v6 v7 hs
  | L5 E0 v6 v7 v12 => exact Zadt E0 v6 v7 v12 hs
theorem Z43 (a0 : Zj) (oa0 : Za2 a0) : Tot (Z85 a0) (fun r => (r.length ≤ 288230376151711744)) := by
 unfold Z85
 refine tZ ?_
 dsimp only [Zabs, LT.den]
 refine tB (Zadl a0 oa0) (fun x1 h2 => ?_)
 refine tO (fun h3 => ?_) (fun h3 => ?_)
 ·exact tR cl
 ·refine tE (fun h4 => ?_) (fun h4 => ?_)
  ·exact tR cl
  ·refine tE (fun h5 => ?_) (fun h5 => ?_)
   ·refine tB (Zm0 a0.N) (fun x6 h7 => ?_)
    replace h7 : (SzT x6) ∧ (x6.length ≤ 20000) := h7
    have eh7_1 := h7.2
    try simp only [List.length_nil, List.length_cons, Nat.zero_add] at eh7_1
    have q8 : x6.length ≤ 562949953421312 := h7.1
    refine tB (tK (by first | (simp only [List.length_append, List.length_cons, List.length_nil]; omega) | omega)) (fun x9 h10 => ?_)
    exact tR cl
   ·refine tE (fun h11 => ?_) (fun h11 => ?_)
    ·refine tB (Zm0 a0.N) (fun x12 h13 => ?_)
     replace h13 : (SzT x12) ∧ (x12.length ≤ 20000) := h13
     have eh13_1 := h13.2
     try simp only [List.length_nil, List.length_cons, Nat.zero_add] at eh13_1
     have q14 : x12.length ≤ 562949953421312 := h13.1
     refine tB (tK (by first | (simp only [List.length_append, List.length_cons, List.length_nil]; omega) | omega)) (fun x15 h16 => ?_)
     exact tR cl
    ·refine tE (fun h17 => ?_) (fun h17 => ?_)
     ·have q18 : a0.Sub.length ≤ 281474976710656 := oa0.1
      refine tB (tK (by first | (simp only [List.length_append, List.length_cons, List.length_nil]; omega) | omega)) (fun x19 h20 => ?_)
      exact tR cl
     ·refine tE (fun h21 => ?_) (fun h21 => ?_)
      ·have q22 : a0.Sub.length ≤ 281474976710656 := oa0.1
       refine tB (tK (by first | (simp only [List.length_append, List.length_cons, List.length_nil]; omega) | omega)) (fun x23 h24 => ?_)
       exact tR cl
      ·refine tE (fun h25 => ?_) (fun h25 => ?_)
       ·refine tB (Z4z a0.N) (fun x26 h27 => ?_)
        replace h27 : (SzT x26) := h27
        have q28 : x26.length ≤ 562949953421312 := h27
        refine tB (tK (by first | (simp only [List.length_append, List.length_cons, List.length_nil]; omega) | omega)) (fun x29 h30 => ?_)
        exact tR cl
       ·refine tE (fun h31 => ?_) (fun h31 => ?_)
        ·refine tB (Z4z a0.N) (fun x32 h33 => ?_)
         replace h33 : (SzT x32) := h33
         have q34 : x32.length ≤ 562949953421312 := h33
         refine tB (tK (by first | (simp only [List.length_append, List.length_cons, List.length_nil]; omega) | omega)) (fun x35 h36 => ?_)
         exact tR cl
        ·refine tE (fun h37 => ?_) (fun h37 => ?_)
         ·refine tB (Z41 a0.N) (fun x38 h39 => ?_)
          replace h39 : (SzT x38) := h39
          have q40 : x38.length ≤ 562949953421312 := h39
          refine tB (tK (by first | (simp only [List.length_append, List.length_cons, List.length_nil]; omega) | omega)) (fun x41 h42 => ?_)
          exact tR cl
         ·refine tE (fun h43 => ?_) (fun h43 => ?_)
          ·refine tB (Z41 a0.N) (fun x44 h45 => ?_)
           replace h45 : (SzT x44) := h45
           have q46 : x44.length ≤ 562949953421312 := h45
           refine tB (tK (by first | (simp only [List.length_append, List.length_cons, List.length_nil]; omega) | omega)) (fun x47 h48 => ?_)
           exact tR cl
          ·refine tE (fun h49 => ?_) (fun h49 => ?_)
           ·exact tR cl
           ·refine tE (fun h50 => ?_) (fun h50 => ?_)
            ·refine tB (Zali a0.Filter oa0.2) (fun x51 h52 => ?_)
             replace h52 : (x51.length ≤ 144115188075855872) := h52
             have eh52_0 := h52
             try simp only [List.length_nil, List.length_cons, Nat.zero_add] at eh52_0
             refine tB (tK (by first | (simp only [List.length_append, List.length_cons, List.length_nil]; omega) | omega)) (fun x53 h54 => ?_)
             refine tB (tK (by first | (simp only [List.length_append, List.length_cons, List.length_nil]; omega) | omega)) (fun x55 h56 => ?_)
             exact tR cl
            ·refine tE (fun h57 => ?_) (fun h57 => ?_)
             ·refine tB (Zja a0.N) (fun x58 h59 => ?_)
              replace h59 : (SzN x58) := h59
              have q60 : x58.length ≤ 100 := h59
              refine tB (tK (by first | (simp only [List.length_append, List.length_cons, List.length_nil]; omega) | omega)) (fun x61 h62 => ?_)
              refine tB (tK (by first | (simp only [List.length_append, List.length_cons, List.length_nil]; omega) | omega)) (fun x63 h64 => ?_)
              refine tB (Zja a0.M) (fun x65 h66 => ?_)
              replace h66 : (SzN x65) := h66
              have q67 : x65.length ≤ 100 := h66
              refine tB (tK (by first | (simp only [List.length_append, List.length_cons, List.length_nil]; omega) | omega)) (fun x68 h69 => ?_)
              exact tR cl
             ·refine tE (fun h70 => ?_) (fun h70 => ?_)
              ·refine tB (Zja a0.N) (fun x71 h72 => ?_)
               replace h72 : (SzN x71) := h72
               have q73 : x71.length ≤ 100 := h72
               refine tB (tK (by first | (simp only [List.length_append, List.length_cons, List.length_nil]; omega) | omega)) (fun x74 h75 => ?_)
               refine tB (tK (by first | (simp only [List.length_append, List.length_cons, List.length_nil]; omega) | omega)) (fun x76 h77 => ?_)
               refine tB (Zja a0.M) (fun x78 h79 => ?_)
               replace h79 : (SzN x78) := h79
               have q80 : x78.length ≤ 100 := h79
               refine tB (tK (by first | (simp only [List.length_append, List.length_cons, List.length_nil]; omega) | omega)) (fun x81 h82 => ?_)
               exact tR cl
              ·exact tR cl
def Zwh : Zi0 → Prop
 | .L0 v0 v3 v4 => ((SzL 176 Za2) v0) ∧ (0 ≤ v4) ∧ (v3.length ≤ 576460752303423488 * v4.toNat) ∧ (v0.length ≤ 6) ∧ (v4 ≤ v0.length)
def Zin : Zi0 → M6
 | .L0 v0 v3 v4 => (1, ((v0.length : Int) - v4).toNat, 1000000, 0, 0, 0)
theorem Z2s (v0 : (List Zj)) (v3 : (List UInt8)) (v4 : Int) (h : ((SzL 176 Za2) v0) ∧ (0 ≤ v4) ∧ (v3.length ≤ 576460752303423488 * v4.toNat) ∧ (v0.length ≤ 6) ∧ (v4 ≤ v0.length)) : Tot (Zpj v0 v3 v4).den (Nx Zwh Zin (1, ((v0.length : Int) - v4).toNat, 1000000, 0, 0, 0) (fun r => (r.length ≤ 4611686018427387904))) := by
 obtain ⟨ov0, cv4, i0, i1, i2⟩ := h
 have lb_v0 : v0.length * 176 ≤ 140737488351232 := ov0.1
 dsimp only [Zpj, LT.den]
 have q1 : v0.length * 176 ≤ 140737488351232 := ov0.1
 refine tD (fun h2 => ?_) (fun h2 => ?_)
 ·refine tB (tI (by omega) (by omega)) (fun x3 h4 => ?_)
  have oh4 : Za2 x3 := ov0.2 x3 h4.1
  refine tB (Zadl x3 oh4) (fun x5 h6 => ?_)
  refine tO (fun h7 => ?_) (fun h7 => ?_)
  ·exact tR cl
  ·refine tD (fun h8 => ?_) (fun h8 => ?_)
   ·refine tB (tK (by first | (simp only [List.length_append, List.length_cons, List.length_nil]; omega) | omega)) (fun x9 h10 => ?_)
    refine tB (Z43 x3 oh4) (fun x11 h12 => ?_)
    replace h12 : (x11.length ≤ 288230376151711744) := h12
    have eh12_0 := h12
    try simp only [List.length_nil, List.length_cons, Nat.zero_add] at eh12_0
    refine tB (tK (by first | (simp only [List.length_append, List.length_cons, List.length_nil]; omega) | omega)) (fun x13 h14 => ?_)
    have q15 : -9223372036854775808 ≤ (v4 + 1) → (v4 + 1) < 9223372036854775808 → IntKind.wrap .i64 (v4 + 1) = (v4 + 1) := Zao _
    have q16 : -9223372036854775808 ≤ IntKind.wrap .i64 (v4 + 1) ∧ IntKind.wrap .i64 (v4 + 1) < 9223372036854775808 := Zap _
    exact tL ⟨ov0, cl, cl, cl, cl⟩ (by unfold Zin lt6; dsimp only; omega)
   ·refine tB (Z43 x3 oh4) (fun x17 h18 => ?_)
    replace h18 : (x17.length ≤ 288230376151711744) := h18
    have eh18_0 := h18
    try simp only [List.length_nil, List.length_cons, Nat.zero_add] at eh18_0
    refine tB (tK (by first | (simp only [List.length_append, List.length_cons, List.length_nil]; omega) | omega)) (fun x19 h20 => ?_)
    have q21 : -9223372036854775808 ≤ (v4 + 1) → (v4 + 1) < 9223372036854775808 → IntKind.wrap .i64 (v4 + 1) = (v4 + 1) := Zao _
    have q22 : -9223372036854775808 ≤ IntKind.wrap .i64 (v4 + 1) ∧ IntKind.wrap .i64 (v4 + 1) < 9223372036854775808 := Zap _
    exact tL ⟨ov0, cl, cl, cl, cl⟩ (by unfold Zin lt6; dsimp only; omega)
 ·exact tR cl
theorem Zom (a0 : (List Zj)) (oa0 : (SzL 176 Za2) a0) : Tot (Zvg a0) (fun r => (r.length ≤ 4611686018427387904)) := by
 unfold Zvg
 refine tX (Inv := Zwh) (μ := Zin) (m := (1000000, 0, 0, 0, 0, 0)) ?_ ?_
 ·have lb_a0 : a0.length * 176 ≤ 140737488351232 := oa0.1
  dsimp only [Zzq, LT.den]
  have q1 : a0.length * 176 ≤ 140737488351232 := oa0.1
  refine tE (fun h2 => ?_) (fun h2 => ?_)
  ·exact tR cl
  ·refine tD (fun h3 => ?_) (fun h3 => ?_)
   ·exact tR cl
   ·exact tL ⟨oa0, cl, cl, cl, cl⟩ (by unfold Zin lt6; dsimp only; omega)
 ·intro s hs
  cases s with
  | L0 v0 v3 v4 => exact Z2s v0 v3 v4 hs
theorem Zaha (a0 : Ze5) : Tot (Z3o a0) (fun r => True) := by
 unfold Z3o
 refine tZ ?_
 dsimp only [Z66, LT.den]
 refine tB (Z1g a0.Mana) (fun x1 h2 => ?_)
 replace h2 : (x1 = true → a0.Mana.X ≤ 2) ∧ (x1 = true → ∀ n, n ∈ A5.list a0.Mana.Color → n ≤ 9) := h2
 have eh2_0 := h2.1
 have eh2_1 := h2.2
 refine tF (fun h3 => ?_) (fun h3 => ?_)
 ·have h3_0 := eh2_0 h3
  have h3_1 := eh2_1 h3
  refine tE (fun h4 => ?_) (fun h4 => ?_)
  ·refine tD (fun h5 => ?_) (fun h5 => ?_)
   ·exact tR trivial
   ·exact tR trivial
  ·exact tR trivial
 ·exact tR trivial
theorem Z44 (a0 : Int) : Tot (Z86 a0) (fun r => (SzN r)) := by
 unfold Z86
 refine tZ ?_
 dsimp only [Zabu, LT.den]
 refine tE (fun h1 => ?_) (fun h1 => ?_)
 ·exact tR (by unfold SzN; first | omega | (simp only [List.length_append, List.length_cons, List.length_nil]; omega))
 ·refine tE (fun h2 => ?_) (fun h2 => ?_)
  ·exact tR (by unfold SzN; first | omega | (simp only [List.length_append, List.length_cons, List.length_nil]; omega))
  ·refine tE (fun h3 => ?_) (fun h3 => ?_)
   ·exact tR (by unfold SzN; first | omega | (simp only [List.length_append, List.length_cons, List.length_nil]; omega))
   ·refine tE (fun h4 => ?_) (fun h4 => ?_)
    ·exact tR (by unfold SzN; first | omega | (simp only [List.length_append, List.length_cons, List.length_nil]; omega))
    ·refine tE (fun h5 => ?_) (fun h5 => ?_)
     ·exact tR (by unfold SzN; first | omega | (simp only [List.length_append, List.length_cons, List.length_nil]; omega))
     ·refine tE (fun h6 => ?_) (fun h6 => ?_)
      ·exact tR (by unfold SzN; first | omega | (simp only [List.length_append, List.length_cons, List.length_nil]; omega))
      ·refine tE (fun h7 => ?_) (fun h7 => ?_)
       ·exact tR (by unfold SzN; first | omega | (simp only [List.length_append, List.length_cons, List.length_nil]; omega))
       ·refine tE (fun h8 => ?_) (fun h8 => ?_)
        ·exact tR (by unfold SzN; first | omega | (simp only [List.length_append, List.length_cons, List.length_nil]; omega))
        ·refine tE (fun h9 => ?_) (fun h9 => ?_)
         ·exact tR (by unfold SzN; first | omega | (simp only [List.length_append, List.length_cons, List.length_nil]; omega))
         ·refine tE (fun h10 => ?_) (fun h10 => ?_)
          ·exact tR (by unfold SzN; first | omega | (simp only [List.length_append, List.length_cons, List.length_nil]; omega))
          ·refine tE (fun h11 => ?_) (fun h11 => ?_)
           ·exact tR (by unfold SzN; first | omega | (simp only [List.length_append, List.length_cons, List.length_nil]; omega))
           ·refine tE (fun h12 => ?_) (fun h12 => ?_)
            ·exact tR (by unfold SzN; first | omega | (simp only [List.length_append, List.length_cons, List.length_nil]; omega))
            ·refine tE (fun h13 => ?_) (fun h13 => ?_)
             ·exact tR (by unfold SzN; first | omega | (simp only [List.length_append, List.length_cons, List.length_nil]; omega))
             ·refine tE (fun h14 => ?_) (fun h14 => ?_)
              ·exact tR (by unfold SzN; first | omega | (simp only [List.length_append, List.length_cons, List.length_nil]; omega))
              ·exact tR (SzN.nil)
theorem Z0a (a0 : Int) : Tot (Z0u a0) (fun r => True) := by
 unfold Z0u
 refine tZ ?_
 dsimp only [Z3p, LT.den]
 refine tE (fun h1 => ?_) (fun h1 => ?_)
 ·exact tR trivial
 ·refine tE (fun h2 => ?_) (fun h2 => ?_)
  ·exact tR trivial
  ·refine tE (fun h3 => ?_) (fun h3 => ?_)
   ·exact tR trivial
   ·refine tE (fun h4 => ?_) (fun h4 => ?_)
    ·exact tR trivial
    ·refine tE (fun h5 => ?_) (fun h5 => ?_)
     ·exact tR trivial
     ·exact tR trivial
theorem Z6f (a0 : Int) : Tot (Zsw a0) (fun r => True) := by
 unfold Zsw
 refine tZ ?_
 dsimp only [Zxc, LT.den]
 refine tB (Z44 a0) (fun x1 h2 => ?_)
 replace h2 : (SzN x1) := h2
 refine tO (fun h3 => ?_) (fun h3 => ?_)
 ·refine tB (Z0a a0) (fun x4 h5 => ?_)
  refine tO (fun h6 => ?_) (fun h6 => ?_)
  ·exact tR trivial
  ·exact tR trivial
 ·exact tR trivial
def Zadu : Zvh → Prop
 | .L0 E0 => (Zi9 E0) ∧ True
def Zago : Zvh → M6
 | .L0 E0 => (0, 0, 0, 0, 0, 0)
theorem Ztj (E0 : Zce) (h : (Zi9 E0) ∧ True) : Tot (Zry E0).den (Nx Zadu Zago (0, 0, 0, 0, 0, 0) (fun r => True)) := by
 obtain ⟨ob30000000, _⟩ := h
 dsimp only [Zry, LT.den]
 refine tB (Z6f E0.When) (fun x1 h2 => ?_)
 refine tO (fun h3 => ?_) (fun h3 => ?_)
 ·exact tR trivial
 ·refine tE (fun h4 => ?_) (fun h4 => ?_)
  ·refine tB (Zgn E0.Filter ob30000000) (fun x5 h6 => ?_)
   replace h6 : (x5 = true → 0 ≤ E0.Filter.Zone ∧ E0.Filter.Zone ≤ 5 ∧ 0 ≤ E0.Filter.Who ∧ E0.Filter.Who ≤ 2 ∧ 0 ≤ E0.Filter.Self ∧ E0.Filter.Self ≤ 2 ∧ 0 ≤ E0.Filter.Tap ∧ E0.Filter.Tap ≤ 2 ∧ 0 ≤ E0.Filter.Power.Kind ∧ E0.Filter.Power.Kind ≤ 3 ∧ 0 ≤ E0.Filter.Tough.Kind ∧ E0.Filter.Tough.Kind ≤ 3 ∧ 0 ≤ E0.Filter.Value.Kind ∧ E0.Filter.Value.Kind ≤ 3) := h6
   have eh6_0 := h6
   refine tF (fun h7 => ?_) (fun h7 => ?_)
   ·have h7_0 := eh6_0 h7
    exact tR trivial
   ·exact tR trivial
  ·refine tB (Zgn E0.Filter ob30000000) (fun x8 h9 => ?_)
   replace h9 : (x8 = true → 0 ≤ E0.Filter.Zone ∧ E0.Filter.Zone ≤ 5 ∧ 0 ≤ E0.Filter.Who ∧ E0.Filter.Who ≤ 2 ∧ 0 ≤ E0.Filter.Self ∧ E0.Filter.Self ≤ 2 ∧ 0 ≤ E0.Filter.Tap ∧ E0.Filter.Tap ≤ 2 ∧ 0 ≤ E0.Filter.Power.Kind ∧ E0.Filter.Power.Kind ≤ 3 ∧ 0 ≤ E0.Filter.Tough.Kind ∧ E0.Filter.Tough.Kind ≤ 3 ∧ 0 ≤ E0.Filter.Value.Kind ∧ E0.Filter.Value.Kind ≤ 3) := h9
   have eh9_0 := h9
   refine tF (fun h10 => ?_) (fun h10 => ?_)
   ·have h10_0 := eh9_0 h10
    exact tR trivial
   ·exact tR trivial
theorem Zaoz (a0 : Zce) (oa0 : Zi9 a0) : Tot (Zajs a0) (fun r => True) := by
 unfold Zajs
 refine tX (Inv := Zadu) (μ := Zago) (m := (1000000, 0, 0, 0, 0, 0)) ?_ ?_
 ·dsimp only [Zajq, LT.den]
  refine tB (Z44 a0.When) (fun x1 h2 => ?_)
  replace h2 : (SzN x1) := h2
  refine tF (fun h3 => ?_) (fun h3 => ?_)
  ·exact tR trivial
  ·refine tD (fun h4 => ?_) (fun h4 => ?_)
   ·exact tR trivial
   ·refine tD (fun h5 => ?_) (fun h5 => ?_)
    ·exact tR trivial
    ·refine tB (Z0a a0.When) (fun x6 h7 => ?_)
     refine tO (fun h8 => ?_) (fun h8 => ?_)
     ·refine tN (fun h9 => ?_) (fun h9 => ?_)
      ·exact tR trivial
      ·exact tJ (Ztj a0 ⟨oa0, trivial⟩)
     ·exact tJ (Ztj a0 ⟨oa0, trivial⟩)
 ·intro s hs
  cases s with
  | L0 E0 => exact Ztj E0 hs
theorem Ztk (a0 : Zh) (oa0 : Za9 a0) : Tot (Z3r a0) (fun r => True) := by
 unfold Z3r
 refine tZ ?_
 dsimp only [Z69, LT.den]
 refine tB (Zgn a0 oa0) (fun x1 h2 => ?_)
 replace h2 : (x1 = true → 0 ≤ a0.Zone ∧ a0.Zone ≤ 5 ∧ 0 ≤ a0.Who ∧ a0.Who ≤ 2 ∧ 0 ≤ a0.Self ∧ a0.Self ≤ 2 ∧ 0 ≤ a0.Tap ∧ a0.Tap ≤ 2 ∧ 0 ≤ a0.Power.Kind ∧ a0.Power.Kind ≤ 3 ∧ 0 ≤ a0.Tough.Kind ∧ a0.Tough.Kind ≤ 3 ∧ 0 ≤ a0.Value.Kind ∧ a0.Value.Kind ≤ 3) := h2
 have eh2_0 := h2
 refine tF (fun h3 => ?_) (fun h3 => ?_)
 ·have h3_0 := eh2_0 h3
  exact tR trivial
 ·exact tR trivial
theorem Zahb (a0 : Za3) (oa0 : Zdz a0) : Tot (Z3s a0) (fun r => True) := by
 unfold Z3s
 refine tZ ?_
 dsimp only [Z7b, LT.den]
 refine tN (fun h1 => ?_) (fun h1 => ?_)
 ·exact tR trivial
 ·refine tB (Ztk a0.Filter oa0) (fun x2 h3 => ?_)
  refine tO (fun h4 => ?_) (fun h4 => ?_)
  ·exact tR trivial
  ·refine tE (fun h5 => ?_) (fun h5 => ?_)
   ·refine tE (fun h6 => ?_) (fun h6 => ?_)
    ·refine tE (fun h7 => ?_) (fun h7 => ?_)
     ·refine tE (fun h8 => ?_) (fun h8 => ?_)
      ·exact tR trivial
      ·refine tE (fun h9 => ?_) (fun h9 => ?_)
       ·exact tR trivial
       ·exact tR trivial
     ·exact tR trivial
    ·exact tR trivial
   ·refine tE (fun h10 => ?_) (fun h10 => ?_)
    ·refine tE (fun h11 => ?_) (fun h11 => ?_)
     ·refine tE (fun h12 => ?_) (fun h12 => ?_)
      ·exact tR trivial
      ·exact tR trivial
     ·exact tR trivial
    ·refine tE (fun h13 => ?_) (fun h13 => ?_)
     ·refine tE (fun h14 => ?_) (fun h14 => ?_)
      ·refine tD (fun h15 => ?_) (fun h15 => ?_)
       ·refine tD (fun h16 => ?_) (fun h16 => ?_)
        ·refine tD (fun h17 => ?_) (fun h17 => ?_)
         ·exact tR trivial
         ·exact tR trivial
        ·exact tR trivial
       ·exact tR trivial
      ·exact tR trivial
     ·exact tR trivial
theorem Zahc (a0 : Za3) (oa0 : Zdz a0) : Tot (Z3t a0) (fun r => True) := by
 unfold Z3t
 refine tZ ?_
 dsimp only [Z7d, LT.den]
 refine tN (fun h1 => ?_) (fun h1 => ?_)
 ·exact tR trivial
 ·refine tN (fun h2 => ?_) (fun h2 => ?_)
  ·exact tR trivial
  ·refine tE (fun h3 => ?_) (fun h3 => ?_)
   ·refine tD (fun h4 => ?_) (fun h4 => ?_)
    ·exact tR trivial
    ·exact tR trivial
   ·refine tE (fun h5 => ?_) (fun h5 => ?_)
    ·refine tD (fun h6 => ?_) (fun h6 => ?_)
     ·exact tR trivial
     ·exact tR trivial
    ·exact tR trivial
def Zuj : Zoh → Prop
 | .L0 E0 v3 v4 => (Zdz E0) ∧ True
 | .L1 E0 v3 => (Zdz E0) ∧ True
 | .L2 E0 v3 v4 v109 => (Zdz E0) ∧ True
def Zxt : Zoh → M6
 | .L0 E0 v3 v4 => (0, 0, 0, 0, 0, 0)
 | .L1 E0 v3 => (0, 0, 0, 0, 0, 0)
 | .L2 E0 v3 v4 v109 => (0, 0, 0, 0, 0, 0)
theorem Zn4 (E0 : Za3) (v3 : Bool) (v4 : Bool) (v109 : Bool) (h : (Zdz E0) ∧ True) : Tot (Zot E0 v3 v4 v109).den (Nx Zuj Zxt (0, 0, 0, 0, 0, 0) (fun r => True)) := by
 obtain ⟨ob30000000, _⟩ := h
 dsimp only [Zot, LT.den]
 refine tF (fun h1 => ?_) (fun h1 => ?_)
 ·refine tF (fun h2 => ?_) (fun h2 => ?_)
  ·refine tD (fun h3 => ?_) (fun h3 => ?_)
   ·refine tD (fun h4 => ?_) (fun h4 => ?_)
    ·exact tR trivial
    ·exact tR trivial
   ·exact tR trivial
  ·exact tR trivial
 ·exact tR trivial
theorem Zki (E0 : Za3) (v3 : Bool) (h : (Zdz E0) ∧ True) : Tot (Zlg E0 v3).den (Nx Zuj Zxt (0, 0, 0, 0, 0, 0) (fun r => True)) := by
 obtain ⟨ob30000000, _⟩ := h
 dsimp only [Zlg, LT.den]
 refine tE (fun h1 => ?_) (fun h1 => ?_)
 ·refine tB (Ztk E0.Filter ob30000000) (fun x2 h3 => ?_)
  refine tF (fun h4 => ?_) (fun h4 => ?_)
  ·exact tR trivial
  ·refine tE (fun h5 => ?_) (fun h5 => ?_)
   ·exact tR trivial
   ·refine tE (fun h6 => ?_) (fun h6 => ?_)
    ·exact tR trivial
    ·exact tR trivial
 ·refine tE (fun h7 => ?_) (fun h7 => ?_)
  ·exact tR trivial
  ·refine tE (fun h8 => ?_) (fun h8 => ?_)
   ·exact tR trivial
   ·exact tR trivial
theorem Zn5 (E0 : Za3) (v3 : Bool) (v4 : Bool) (h : (Zdz E0) ∧ True) : Tot (Zou E0 v3 v4).den (Nx Zuj Zxt (0, 0, 0, 0, 0, 0) (fun r => True)) := by
 obtain ⟨ob30000000, _⟩ := h
 dsimp only [Zou, LT.den]
 refine tE (fun h1 => ?_) (fun h1 => ?_)
 ·refine tN (fun h2 => ?_) (fun h2 => ?_)
  ·refine tN (fun h3 => ?_) (fun h3 => ?_)
   ·refine tN (fun h4 => ?_) (fun h4 => ?_)
    ·refine tN (fun h5 => ?_) (fun h5 => ?_)
     ·exact tR trivial
     ·exact tJ (Zki E0 v3 ⟨ob30000000, trivial⟩)
    ·exact tJ (Zki E0 v3 ⟨ob30000000, trivial⟩)
   ·exact tJ (Zki E0 v3 ⟨ob30000000, trivial⟩)
  ·exact tJ (Zki E0 v3 ⟨ob30000000, trivial⟩)
 ·refine tE (fun h6 => ?_) (fun h6 => ?_)
  ·refine tF (fun h7 => ?_) (fun h7 => ?_)
   ·refine tE (fun h8 => ?_) (fun h8 => ?_)
    ·refine tB (Ztk E0.Filter ob30000000) (fun x9 h10 => ?_)
     exact tR trivial
    ·exact tR trivial
   ·exact tR trivial
  ·refine tE (fun h11 => ?_) (fun h11 => ?_)
   ·refine tE (fun h12 => ?_) (fun h12 => ?_)
    ·refine tD (fun h13 => ?_) (fun h13 => ?_)
     ·refine tD (fun h14 => ?_) (fun h14 => ?_)
      ·exact tR trivial
      ·exact tR trivial
     ·exact tR trivial
    ·refine tE (fun h15 => ?_) (fun h15 => ?_)
     ·refine tD (fun h16 => ?_) (fun h16 => ?_)
      ·refine tD (fun h17 => ?_) (fun h17 => ?_)
       ·exact tR trivial
       ·exact tR trivial
      ·exact tR trivial
     ·exact tR trivial
   ·refine tE (fun h18 => ?_) (fun h18 => ?_)
    ·exact tJ (Zn4 E0 v3 v4 (E0.On == 4) ⟨ob30000000, trivial⟩)
    ·refine tE (fun h19 => ?_) (fun h19 => ?_)
     ·exact tJ (Zn4 E0 v3 v4 (E0.On == 5) ⟨ob30000000, trivial⟩)
     ·exact tJ (Zn4 E0 v3 v4 (E0.On == 10) ⟨ob30000000, trivial⟩)
theorem Zao0 (a0 : Za3) (oa0 : Zdz a0) : Tot (Zajx a0) (fun r => True) := by
 unfold Zajx
 refine tX (Inv := Zuj) (μ := Zxt) (m := (1000000, 0, 0, 0, 0, 0)) ?_ ?_
 ·dsimp only [Zajv, LT.den]
  refine tE (fun h1 => ?_) (fun h1 => ?_)
  ·refine tB (Zahb a0 oa0) (fun x2 h3 => ?_)
   exact tR trivial
  ·refine tB (Zahc a0 oa0) (fun x4 h5 => ?_)
   refine tO (fun h6 => ?_) (fun h6 => ?_)
   ·exact tR trivial
   ·refine tE (fun h7 => ?_) (fun h7 => ?_)
    ·exact tJ (Zn5 a0 (Zw (Zq a0.Filter) (Zq (⟨0, 0, 0, 0, 0, 0, 0, ([] : List UInt8), 0, 0, (⟨0, 0⟩ : Zc), (⟨0, 0⟩ : Zc), (⟨0, 0⟩ : Zc)⟩ : Zh))) true ⟨oa0, trivial⟩)
    ·refine tE (fun h8 => ?_) (fun h8 => ?_)
     ·exact tJ (Zn5 a0 (Zw (Zq a0.Filter) (Zq (⟨0, 0, 0, 0, 0, 0, 0, ([] : List UInt8), 0, 0, (⟨0, 0⟩ : Zc), (⟨0, 0⟩ : Zc), (⟨0, 0⟩ : Zc)⟩ : Zh))) true ⟨oa0, trivial⟩)
     ·exact tJ (Zn5 a0 (Zw (Zq a0.Filter) (Zq (⟨0, 0, 0, 0, 0, 0, 0, ([] : List UInt8), 0, 0, (⟨0, 0⟩ : Zc), (⟨0, 0⟩ : Zc), (⟨0, 0⟩ : Zc)⟩ : Zh))) (a0.Do == 8) ⟨oa0, trivial⟩)
 ·intro s hs
  cases s with
  | L0 E0 v3 v4 => exact Zn5 E0 v3 v4 hs
  | L1 E0 v3 => exact Zki E0 v3 hs
  | L2 E0 v3 v4 v109 => exact Zn4 E0 v3 v4 v109 hs
theorem Zalj (a0 : Zaz) (oa0 : Zha a0) : Tot (Z88 a0) (fun r => True) := by
 unfold Z88
 refine tZ ?_
 dsimp only [Zabw, LT.den]
 refine tO (fun h1 => ?_) (fun h1 => ?_)
 ·refine tF (fun h2 => ?_) (fun h2 => ?_)
  ·exact tR trivial
  ·exact tR trivial
 ·refine tB (Zgn a0.Filter oa0) (fun x3 h4 => ?_)
  replace h4 : (x3 = true → 0 ≤ a0.Filter.Zone ∧ a0.Filter.Zone ≤ 5 ∧ 0 ≤ a0.Filter.Who ∧ a0.Filter.Who ≤ 2 ∧ 0 ≤ a0.Filter.Self ∧ a0.Filter.Self ≤ 2 ∧ 0 ≤ a0.Filter.Tap ∧ a0.Filter.Tap ≤ 2 ∧ 0 ≤ a0.Filter.Power.Kind ∧ a0.Filter.Power.Kind ≤ 3 ∧ 0 ≤ a0.Filter.Tough.Kind ∧ a0.Filter.Tough.Kind ≤ 3 ∧ 0 ≤ a0.Filter.Value.Kind ∧ a0.Filter.Value.Kind ≤ 3) := h4
  have eh4_0 := h4
  refine tF (fun h5 => ?_) (fun h5 => ?_)
  ·have h5_0 := eh4_0 h5
   refine tE (fun h6 => ?_) (fun h6 => ?_)
   ·exact tR trivial
   ·refine tE (fun h7 => ?_) (fun h7 => ?_)
    ·exact tR trivial
    ·exact tR trivial
  ·exact tR trivial
def Z2f : Zm9 → Prop
 | .L0 v0 v3 => ((SzL 144 Zha) v0) ∧ (0 ≤ v3)
def Zp7 : Zm9 → M6
 | .L0 v0 v3 => (1, ((v0.length : Int) - v3).toNat, 1000000, 0, 0, 0)
theorem Z92 (v0 : (List Zaz)) (v3 : Int) (h : ((SzL 144 Zha) v0) ∧ (0 ≤ v3)) : Tot (Zvj v0 v3).den (Nx Z2f Zp7 (1, ((v0.length : Int) - v3).toNat, 1000000, 0, 0, 0) (fun r => True)) := by
 obtain ⟨ov0, cv3⟩ := h
 have lb_v0 : v0.length * 144 ≤ 140737488351232 := ov0.1
 dsimp only [Zvj, LT.den]
 have q1 : v0.length * 144 ≤ 140737488351232 := ov0.1
 refine tD (fun h2 => ?_) (fun h2 => ?_)
 ·refine tB (tI (by omega) (by omega)) (fun x3 h4 => ?_)
  have oh4 : Zha x3 := ov0.2 x3 h4.1
  refine tB (Zalj x3 oh4) (fun x5 h6 => ?_)
  refine tO (fun h7 => ?_) (fun h7 => ?_)
  ·exact tR trivial
  ·have q8 : -9223372036854775808 ≤ (v3 + 1) → (v3 + 1) < 9223372036854775808 → IntKind.wrap .i64 (v3 + 1) = (v3 + 1) := Zao _
   have q9 : -9223372036854775808 ≤ IntKind.wrap .i64 (v3 + 1) ∧ IntKind.wrap .i64 (v3 + 1) < 9223372036854775808 := Zap _
   exact tL ⟨ov0, cl⟩ (by unfold Zp7 lt6; dsimp only; omega)
 ·exact tR trivial
theorem Zahd (a0 : (List Zaz)) (oa0 : (SzL 144 Zha) a0) : Tot (Z3u a0) (fun r => True) := by
 unfold Z3u
 refine tX (Inv := Z2f) (μ := Zp7) (m := (1000000, 0, 0, 0, 0, 0)) ?_ ?_
 ·have lb_a0 : a0.length * 144 ≤ 140737488351232 := oa0.1
  dsimp only [Z7f, LT.den]
  exact tL ⟨oa0, cl⟩ (by unfold Zp7 lt6; dsimp only; omega)
 ·intro s hs
  cases s with
  | L0 v0 v3 => exact Z92 v0 v3 hs
theorem Zalk (a0 : Int) : Tot (Z89 a0) (fun r => (SzN r)) := by
 unfold Z89
 refine tZ ?_
 dsimp only [Zaby, LT.den]
 refine tD (fun h1 => ?_) (fun h1 => ?_)
 ·exact tR (SzN.nil)
 ·refine tD (fun h2 => ?_) (fun h2 => ?_)
  ·exact tR (SzN.nil)
  ·have q3 : (SzL 16 SzN) ([([100, 97, 109, 97, 103, 101] : List UInt8), ([100, 101, 115, 116, 114, 111, 121] : List UInt8), ([109, 111, 118, 101] : List UInt8), ([100, 114, 97, 119] : List UInt8), ([100, 105, 115, 99, 97, 114, 100] : List UInt8), ([103, 97, 105, 110] : List UInt8), ([108, 111, 115, 101] : List UInt8), ([116, 97, 112] : List UInt8), ([117, 110, 116, 97, 112] : List UInt8), ([112, 117, 116] : List UInt8), ([116, 97, 107, 101] : List UInt8), ([99, 114, 101, 97, 116, 101] : List UInt8), ([109, 111, 100] : List UInt8), ([109, 97, 110, 97] : List UInt8), ([99, 111, 117, 110, 116, 101, 114] : List UInt8), ([99, 111, 112, 121] : List UInt8), ([98, 101, 99, 111, 109, 101] : List UInt8), ([115, 97, 99, 114, 105, 102, 105, 99, 101] : List UInt8), ([109, 105, 108, 108] : List UInt8), ([115, 99, 114, 121] : List UInt8), ([115, 101, 97, 114, 99, 104] : List UInt8), ([115, 104, 105, 101, 108, 100] : List UInt8), ([116, 117, 114, 110] : List UInt8), ([119, 105, 110] : List UInt8), ([100, 101, 102, 101, 97, 116] : List UInt8), ([118, 101, 110, 111, 109] : List UInt8)] : (List (List UInt8))) := ⟨by simp only [List.length_cons, List.length_nil]; omega, (mem_cons' (by unfold SzN; first | omega | (simp only [List.length_append, List.length_cons, List.length_nil]; omega)) (mem_cons' (by unfold SzN; first | omega | (simp only [List.length_append, List.length_cons, List.length_nil]; omega)) (mem_cons' (by unfold SzN; first | omega | (simp only [List.length_append, List.length_cons, List.length_nil]; omega)) (mem_cons' (by unfold SzN; first | omega | (simp only [List.length_append, List.length_cons, List.length_nil]; omega)) (mem_cons' (by unfold SzN; first | omega | (simp only [List.length_append, List.length_cons, List.length_nil]; omega)) (mem_cons' (by unfold SzN; first | omega | (simp only [List.length_append, List.length_cons, List.length_nil]; omega)) (mem_cons' (by unfold SzN; first | omega | (simp only [List.length_append, List.length_cons, List.length_nil]; omega)) (mem_cons' (by unfold SzN; first | omega | (simp only [List.length_append, List.length_cons, List.length_nil]; omega)) (mem_cons' (by unfold SzN; first | omega | (simp only [List.length_append, List.length_cons, List.length_nil]; omega)) (mem_cons' (by unfold SzN; first | omega | (simp only [List.length_append, List.length_cons, List.length_nil]; omega)) (mem_cons' (by unfold SzN; first | omega | (simp only [List.length_append, List.length_cons, List.length_nil]; omega)) (mem_cons' (by unfold SzN; first | omega | (simp only [List.length_append, List.length_cons, List.length_nil]; omega)) (mem_cons' (by unfold SzN; first | omega | (simp only [List.length_append, List.length_cons, List.length_nil]; omega)) (mem_cons' (by unfold SzN; first | omega | (simp only [List.length_append, List.length_cons, List.length_nil]; omega)) (mem_cons' (by unfold SzN; first | omega | (simp only [List.length_append, List.length_cons, List.length_nil]; omega)) (mem_cons' (by unfold SzN; first | omega | (simp only [List.length_append, List.length_cons, List.length_nil]; omega)) (mem_cons' (by unfold SzN; first | omega | (simp only [List.length_append, List.length_cons, List.length_nil]; omega)) (mem_cons' (by unfold SzN; first | omega | (simp only [List.length_append, List.length_cons, List.length_nil]; omega)) (mem_cons' (by unfold SzN; first | omega | (simp only [List.length_append, List.length_cons, List.length_nil]; omega)) (mem_cons' (by unfold SzN; first | omega | (simp only [List.length_append, List.length_cons, List.length_nil]; omega)) (mem_cons' (by unfold SzN; first | omega | (simp only [List.length_append, List.length_cons, List.length_nil]; omega)) (mem_cons' (by unfold SzN; first | omega | (simp only [List.length_append, List.length_cons, List.length_nil]; omega)) (mem_cons' (by unfold SzN; first | omega | (simp only [List.length_append, List.length_cons, List.length_nil]; omega)) (mem_cons' (by unfold SzN; first | omega | (simp only [List.length_append, List.length_cons, List.length_nil]; omega)) (mem_cons' (by unfold SzN; first | omega | (simp only [List.length_append, List.length_cons, List.length_nil]; omega)) (mem_cons' (by unfold SzN; first | omega | (simp only [List.length_append, List.length_cons, List.length_nil]; omega)) (fun _ h => by cases h)))))))))))))))))))))))))))⟩
   have lq3 : ([([100, 97, 109, 97, 103, 101] : List UInt8), ([100, 101, 115, 116, 114, 111, 121] : List UInt8), ([109, 111, 118, 101] : List UInt8), ([100, 114, 97, 119] : List UInt8), ([100, 105, 115, 99, 97, 114, 100] : List UInt8), ([103, 97, 105, 110] : List UInt8), ([108, 111, 115, 101] : List UInt8), ([116, 97, 112] : List UInt8), ([117, 110, 116, 97, 112] : List UInt8), ([112, 117, 116] : List UInt8), ([116, 97, 107, 101] : List UInt8), ([99, 114, 101, 97, 116, 101] : List UInt8), ([109, 111, 100] : List UInt8), ([109, 97, 110, 97] : List UInt8), ([99, 111, 117, 110, 116, 101, 114] : List UInt8), ([99, 111, 112, 121] : List UInt8), ([98, 101, 99, 111, 109, 101] : List UInt8), ([115, 97, 99, 114, 105, 102, 105, 99, 101] : List UInt8), ([109, 105, 108, 108] : List UInt8), ([115, 99, 114, 121] : List UInt8), ([115, 101, 97, 114, 99, 104] : List UInt8), ([115, 104, 105, 101, 108, 100] : List UInt8), ([116, 117, 114, 110] : List UInt8), ([119, 105, 110] : List UInt8), ([100, 101, 102, 101, 97, 116] : List UInt8), ([118, 101, 110, 111, 109] : List UInt8)] : (List (List UInt8))).length = 26 := rfl
   have q4 : -9223372036854775808 ≤ (a0 - 1) → (a0 - 1) < 9223372036854775808 → IntKind.wrap .i64 (a0 - 1) = (a0 - 1) := Zao _
   have q5 : -9223372036854775808 ≤ IntKind.wrap .i64 (a0 - 1) ∧ IntKind.wrap .i64 (a0 - 1) < 9223372036854775808 := Zap _
   refine tB (tI (by omega) (by omega)) (fun x6 h7 => ?_)
   have oh7 : SzN x6 := q3.2 x6 h7.1
   exact tR oh7
def Zwi : Zmj → Prop
 | .L0 v3 v4 => True
 | .L1 v3 v14 => True
def Zza : Zmj → M6
 | .L0 v3 v4 => (0, 0, 0, 0, 0, 0)
 | .L1 v3 v14 => (0, 0, 0, 0, 0, 0)
theorem Zp8 (v3 : Int) (v14 : Bool) (h : True) : Tot (Zna v3 v14).den (Nx Zwi Zza (0, 0, 0, 0, 0, 0) (fun r => (SzN r))) := by
 dsimp only [Zna, LT.den]
 refine tF (fun h1 => ?_) (fun h1 => ?_)
 ·exact tR (by unfold SzN; first | omega | (simp only [List.length_append, List.length_cons, List.length_nil]; omega))
 ·refine tE (fun h2 => ?_) (fun h2 => ?_)
  ·exact tR (by unfold SzN; first | omega | (simp only [List.length_append, List.length_cons, List.length_nil]; omega))
  ·refine tE (fun h3 => ?_) (fun h3 => ?_)
   ·exact tR (by unfold SzN; first | omega | (simp only [List.length_append, List.length_cons, List.length_nil]; omega))
   ·refine tE (fun h4 => ?_) (fun h4 => ?_)
    ·exact tR (by unfold SzN; first | omega | (simp only [List.length_append, List.length_cons, List.length_nil]; omega))
    ·refine tE (fun h5 => ?_) (fun h5 => ?_)
     ·exact tR (by unfold SzN; first | omega | (simp only [List.length_append, List.length_cons, List.length_nil]; omega))
     ·refine tE (fun h6 => ?_) (fun h6 => ?_)
      ·exact tR (by unfold SzN; first | omega | (simp only [List.length_append, List.length_cons, List.length_nil]; omega))
      ·refine tE (fun h7 => ?_) (fun h7 => ?_)
       ·exact tR (by unfold SzN; first | omega | (simp only [List.length_append, List.length_cons, List.length_nil]; omega))
       ·refine tE (fun h8 => ?_) (fun h8 => ?_)
        ·exact tR (SzN.nil)
        ·refine tE (fun h9 => ?_) (fun h9 => ?_)
         ·exact tR (SzN.nil)
         ·exact tR (by unfold SzN; first | omega | (simp only [List.length_append, List.length_cons, List.length_nil]; omega))
theorem Zfq (v3 : Int) (v4 : Bool) (h : True) : Tot (Zgf v3 v4).den (Nx Zwi Zza (0, 0, 0, 0, 0, 0) (fun r => (SzN r))) := by
 dsimp only [Zgf, LT.den]
 refine tF (fun h1 => ?_) (fun h1 => ?_)
 ·exact tR (by unfold SzN; first | omega | (simp only [List.length_append, List.length_cons, List.length_nil]; omega))
 ·refine tE (fun h2 => ?_) (fun h2 => ?_)
  ·exact tR (by unfold SzN; first | omega | (simp only [List.length_append, List.length_cons, List.length_nil]; omega))
  ·refine tE (fun h3 => ?_) (fun h3 => ?_)
   ·exact tJ (Zp8 v3 (v3 == 10) trivial)
   ·exact tJ (Zp8 v3 (v3 == 11) trivial)
theorem Zall (a0 : Int) : Tot (Z9a a0) (fun r => (SzN r)) := by
 unfold Z9a
 refine tX (Inv := Zwi) (μ := Zza) (m := (1000000, 0, 0, 0, 0, 0)) ?_ ?_
 ·dsimp only [Zab0, LT.den]
  refine tE (fun h1 => ?_) (fun h1 => ?_)
  ·exact tJ (Zfq a0 (a0 == 2) trivial)
  ·refine tE (fun h2 => ?_) (fun h2 => ?_)
   ·exact tJ (Zfq a0 (a0 == 8) trivial)
   ·refine tE (fun h3 => ?_) (fun h3 => ?_)
    ·exact tJ (Zfq a0 (a0 == 9) trivial)
    ·refine tE (fun h4 => ?_) (fun h4 => ?_)
     ·exact tJ (Zfq a0 (a0 == 15) trivial)
     ·refine tE (fun h5 => ?_) (fun h5 => ?_)
      ·exact tJ (Zfq a0 (a0 == 16) trivial)
      ·refine tE (fun h6 => ?_) (fun h6 => ?_)
       ·exact tJ (Zfq a0 (a0 == 17) trivial)
       ·exact tJ (Zfq a0 (a0 == 25) trivial)
 ·intro s hs
  cases s with
  | L0 v3 v4 => exact Zfq v3 v4 hs
  | L1 v3 v14 => exact Zp8 v3 v14 hs
def Z45 : Zpl → Prop
 | .L0 v1 v5 v6 => (SzT v5) ∧ (0 ≤ v6)
def Zrg : Zpl → M6
 | .L0 v1 v5 v6 => (1, ((v5.length : Int) - v6).toNat, 1000000, 0, 0, 0)
theorem Zadv (v1 : Int) (v5 : (List UInt8)) (v6 : Int) (h : (SzT v5) ∧ (0 ≤ v6)) : Tot (Zyi v1 v5 v6).den (Nx Z45 Zrg (1, ((v5.length : Int) - v6).toNat, 1000000, 0, 0, 0) (fun r => True)) := by
 obtain ⟨ov5, cv6⟩ := h
 have lb_v5 : v5.length ≤ 562949953421312 := ov5
 dsimp only [Zyi, LT.den]
 have q1 : v5.length ≤ 562949953421312 := ov5
 refine tD (fun h2 => ?_) (fun h2 => ?_)
 ·refine tB (tI (by omega) (by omega)) (fun x3 h4 => ?_)
  refine tE (fun h5 => ?_) (fun h5 => ?_)
  ·exact tR trivial
  ·have q6 : -9223372036854775808 ≤ (v6 + 1) → (v6 + 1) < 9223372036854775808 → IntKind.wrap .i64 (v6 + 1) = (v6 + 1) := Zao _
   have q7 : -9223372036854775808 ≤ IntKind.wrap .i64 (v6 + 1) ∧ IntKind.wrap .i64 (v6 + 1) < 9223372036854775808 := Zap _
   exact tL ⟨ov5, cl⟩ (by unfold Zrg lt6; dsimp only; omega)
 ·exact tR trivial
theorem Zhg (a0 : Int) (a1 : Int) : Tot (Z9b a0 a1) (fun r => True) := by
 unfold Z9b
 refine tX (Inv := Z45) (μ := Zrg) (m := (1000000, 0, 0, 0, 0, 0)) ?_ ?_
 ·dsimp only [Zab2, LT.den]
  refine tB (Zall a0) (fun x1 h2 => ?_)
  replace h2 : (SzN x1) := h2
  exact tL ⟨(SzN.t h2), cl⟩ (by unfold Zrg lt6; dsimp only; omega)
 ·intro s hs
  cases s with
  | L0 v1 v5 v6 => exact Zadv v1 v5 v6 hs
theorem Z93 (a0 : Int) : Tot (Zvk a0) (fun r => True) := by
 unfold Zvk
 refine tZ ?_
 dsimp only [Zzs, LT.den]
 refine tE (fun h1 => ?_) (fun h1 => ?_)
 ·exact tR trivial
 ·exact tR trivial
def Z1h : Zqp → Prop
 | .L0 v1 E0 => (Zj1 E0) ∧ True
 | .L1 E0 => (Zj1 E0) ∧ True
def Z46 : Zqp → M6
 | .L0 v1 E0 => (0, 0, 0, 0, 0, 0)
 | .L1 E0 => (0, 0, 0, 0, 0, 0)
theorem Ztl (E0 : Zeq) (h : (Zj1 E0) ∧ True) : Tot (Zrz E0).den (Nx Z1h Z46 (0, 0, 0, 0, 0, 0) (fun r => True)) := by
 obtain ⟨ob30000000, _⟩ := h
 dsimp only [Zrz, LT.den]
 refine tE (fun h1 => ?_) (fun h1 => ?_)
 ·refine tB (Zgn E0.Filter ob30000000) (fun x2 h3 => ?_)
  replace h3 : (x2 = true → 0 ≤ E0.Filter.Zone ∧ E0.Filter.Zone ≤ 5 ∧ 0 ≤ E0.Filter.Who ∧ E0.Filter.Who ≤ 2 ∧ 0 ≤ E0.Filter.Self ∧ E0.Filter.Self ≤ 2 ∧ 0 ≤ E0.Filter.Tap ∧ E0.Filter.Tap ≤ 2 ∧ 0 ≤ E0.Filter.Power.Kind ∧ E0.Filter.Power.Kind ≤ 3 ∧ 0 ≤ E0.Filter.Tough.Kind ∧ E0.Filter.Tough.Kind ≤ 3 ∧ 0 ≤ E0.Filter.Value.Kind ∧ E0.Filter.Value.Kind ≤ 3) := h3
  have eh3_0 := h3
  exact tR trivial
 ·exact tR trivial
theorem Ztm (v1 : Int) (E0 : Zeq) (h : (Zj1 E0) ∧ True) : Tot (Zr0 v1 E0).den (Nx Z1h Z46 (0, 0, 0, 0, 0, 0) (fun r => True)) := by
 obtain ⟨ob30000000, _⟩ := h
 dsimp only [Zr0, LT.den]
 refine tD (fun h1 => ?_) (fun h1 => ?_)
 ·exact tR trivial
 ·refine tD (fun h2 => ?_) (fun h2 => ?_)
  ·exact tR trivial
  ·refine tB (Z93 E0.Kind) (fun x3 h4 => ?_)
   refine tF (fun h5 => ?_) (fun h5 => ?_)
   ·refine tD (fun h6 => ?_) (fun h6 => ?_)
    ·exact tR trivial
    ·refine tD (fun h7 => ?_) (fun h7 => ?_)
     ·exact tR trivial
     ·exact tJ (Ztl E0 ⟨ob30000000, trivial⟩)
   ·refine tN (fun h8 => ?_) (fun h8 => ?_)
    ·exact tR trivial
    ·exact tJ (Ztl E0 ⟨ob30000000, trivial⟩)
theorem Zao1 (a0 : Zeq) (a1 : Int) (oa0 : Zj1 a0) : Tot (Zaj1 a0 a1) (fun r => True) := by
 unfold Zaj1
 refine tX (Inv := Z1h) (μ := Z46) (m := (1000000, 0, 0, 0, 0, 0)) ?_ ?_
 ·dsimp only [Zajz, LT.den]
  refine tD (fun h1 => ?_) (fun h1 => ?_)
  ·exact tJ (Ztm 4 a0 ⟨oa0, trivial⟩)
  ·exact tJ (Ztm a1 a0 ⟨oa0, trivial⟩)
 ·intro s hs
  cases s with
  | L0 v1 E0 => exact Ztm v1 E0 hs
  | L1 E0 => exact Ztl E0 hs
theorem Z47 (a0 : Int) : Tot (Z9c a0) (fun r => (SzN r)) := by
 unfold Z9c
 refine tZ ?_
 dsimp only [Zab5, LT.den]
 refine tE (fun h1 => ?_) (fun h1 => ?_)
 ·exact tR (by unfold SzN; first | omega | (simp only [List.length_append, List.length_cons, List.length_nil]; omega))
 ·refine tE (fun h2 => ?_) (fun h2 => ?_)
  ·exact tR (by unfold SzN; first | omega | (simp only [List.length_append, List.length_cons, List.length_nil]; omega))
  ·refine tE (fun h3 => ?_) (fun h3 => ?_)
   ·exact tR (by unfold SzN; first | omega | (simp only [List.length_append, List.length_cons, List.length_nil]; omega))
   ·exact tR (SzN.nil)
theorem Zao2 (a0 : Zcf) (oa0 : Ztc a0) : Tot (Zaj4 a0) (fun r => True) := by
 unfold Zaj4
 refine tZ ?_
 dsimp only [Zaj2, LT.den]
 refine tE (fun h1 => ?_) (fun h1 => ?_)
 ·refine tD (fun h2 => ?_) (fun h2 => ?_)
  ·exact tR trivial
  ·refine tD (fun h3 => ?_) (fun h3 => ?_)
   ·exact tR trivial
   ·refine tD (fun h4 => ?_) (fun h4 => ?_)
    ·refine tD (fun h5 => ?_) (fun h5 => ?_)
     ·exact tR trivial
     ·exact tR trivial
    ·exact tR trivial
 ·refine tE (fun h6 => ?_) (fun h6 => ?_)
  ·refine tD (fun h7 => ?_) (fun h7 => ?_)
   ·exact tR trivial
   ·refine tD (fun h8 => ?_) (fun h8 => ?_)
    ·exact tR trivial
    ·refine tB (Zgn a0.Filter oa0) (fun x9 h10 => ?_)
     replace h10 : (x9 = true → 0 ≤ a0.Filter.Zone ∧ a0.Filter.Zone ≤ 5 ∧ 0 ≤ a0.Filter.Who ∧ a0.Filter.Who ≤ 2 ∧ 0 ≤ a0.Filter.Self ∧ a0.Filter.Self ≤ 2 ∧ 0 ≤ a0.Filter.Tap ∧ a0.Filter.Tap ≤ 2 ∧ 0 ≤ a0.Filter.Power.Kind ∧ a0.Filter.Power.Kind ≤ 3 ∧ 0 ≤ a0.Filter.Tough.Kind ∧ a0.Filter.Tough.Kind ≤ 3 ∧ 0 ≤ a0.Filter.Value.Kind ∧ a0.Filter.Value.Kind ≤ 3) := h10
     have eh10_0 := h10
     refine tO (fun h11 => ?_) (fun h11 => ?_)
     ·exact tR trivial
     ·have h11_0 := eh10_0 h11
      refine tD (fun h12 => ?_) (fun h12 => ?_)
      ·refine tD (fun h13 => ?_) (fun h13 => ?_)
       ·exact tR trivial
       ·exact tR trivial
      ·exact tR trivial
  ·refine tE (fun h14 => ?_) (fun h14 => ?_)
   ·refine tB (Z47 a0.Counter) (fun x15 h16 => ?_)
    replace h16 : (SzN x15) := h16
    refine tF (fun h17 => ?_) (fun h17 => ?_)
    ·exact tR trivial
    ·refine tD (fun h18 => ?_) (fun h18 => ?_)
     ·refine tD (fun h19 => ?_) (fun h19 => ?_)
      ·exact tR trivial
      ·exact tR trivial
     ·exact tR trivial
   ·refine tD (fun h20 => ?_) (fun h20 => ?_)
    ·refine tD (fun h21 => ?_) (fun h21 => ?_)
     ·exact tR trivial
     ·exact tR trivial
    ·exact tR trivial
theorem Zalm (a0 : (List Zj)) (oa0 : (SzL 176 Za2) a0) : Tot (Z9d a0) (fun r => True) := by
 unfold Z9d
 refine tZ ?_
 have lb_a0 : a0.length * 176 ≤ 140737488351232 := oa0.1
 dsimp only [Zab7, LT.den]
 refine tB (Zom a0 oa0) (fun x1 h2 => ?_)
 replace h2 : (x1.length ≤ 4611686018427387904) := h2
 have eh2_0 := h2
 try simp only [List.length_nil, List.length_cons, Nat.zero_add] at eh2_0
 exact tR trivial
def Z48 : Zpm → Prop
 | .L0 E0 E1 E2 v4 => (0 ≤ v4) ∧ True
def Zrh : Zpm → M6
 | .L0 E0 E1 E2 v4 => (1, (5 - v4).toNat, 1000000, 0, 0, 0)
theorem Zadw (E0 : (A6 Int)) (E1 : Zay) (E2 : Zay) (v4 : Int) (h : (0 ≤ v4) ∧ True) : Tot (Zyj E0 E1 E2 v4).den (Nx Z48 Zrh (1, (5 - v4).toNat, 1000000, 0, 0, 0) (fun r => True)) := by
 obtain ⟨cv4, _⟩ := h
 dsimp only [Zyj, LT.den]
 refine tD (fun h1 => ?_) (fun h1 => ?_)
 ·have q2 : -9223372036854775808 ≤ (v4 + 1) → (v4 + 1) < 9223372036854775808 → IntKind.wrap .i64 (v4 + 1) = (v4 + 1) := Zao _
  have q3 : -9223372036854775808 ≤ IntKind.wrap .i64 (v4 + 1) ∧ IntKind.wrap .i64 (v4 + 1) < 9223372036854775808 := Zap _
  refine tB (tI (by omega) (by have e : (A6.list E0).length = 6 := rfl; omega)) (fun x4 h5 => ?_)
  refine tB (tI (by omega) (by have e : (A5.list E2.Color).length = 5 := rfl; omega)) (fun x6 h7 => ?_)
  refine tB (Tot.setA5 (by omega) (by omega)) (fun x8 h9 => ?_)
  exact tL ⟨cl, trivial⟩ (by unfold Zrh lt6; dsimp only; omega)
 ·exact tR trivial
theorem Zaln (a0 : (A6 Int)) : Tot (Z9e a0) (fun r => True) := by
 unfold Z9e
 refine tX (Inv := Z48) (μ := Zrh) (m := (1000000, 0, 0, 0, 0, 0)) ?_ ?_
 ·dsimp only [Zab9, LT.den]
  refine tB (tI (by omega) (by have e : (A6.list a0).length = 6 := rfl; omega)) (fun x1 h2 => ?_)
  exact tL ⟨cl, trivial⟩ (by unfold Zrh lt6; dsimp only; omega)
 ·intro s hs
  cases s with
  | L0 E0 E1 E2 v4 => exact Zadw E0 E1 E2 v4 hs
def Zp9 : Zjp → Prop
 | .L0 E0 v3 v4 => (0 ≤ v4) ∧ (E0.X ≤ 2) ∧ (∀ n, n ∈ A5.list E0.Color → n ≤ 9) ∧ (v3.length ≤ v4.toNat) ∧ (v4 ≤ 2)
 | .L1 E0 v3 v5 => (0 ≤ v5) ∧ (v3.length ≤ 200 + 200 * v5.toNat) ∧ (∀ n, n ∈ A5.list E0.Color → n ≤ 9) ∧ (v5 ≤ 5)
 | .L2 E0 v3 v5 v6 => (0 ≤ v5) ∧ (0 ≤ v6) ∧ (v5 < 5) ∧ (v3.length ≤ 200 + 200 * v5.toNat + v6.toNat) ∧ (∀ n, n ∈ A5.list E0.Color → n ≤ 9) ∧ (v5 < 5) ∧ (v6 ≤ 9)
def Zfy : Zjp → M6
 | .L0 E0 v3 v4 => (3, (E0.X - v4).toNat, 1000000, 0, 0, 0)
 | .L1 E0 v3 v5 => (1, (5 - v5).toNat, 1000000, 0, 0, 0)
 | .L2 E0 v3 v5 v6 => (1, (5 - v5).toNat, 1, (9 - v6).toNat, 1000000, 0)
theorem Zadx (E0 : Zay) (v3 : (List UInt8)) (v4 : Int) (h : (0 ≤ v4) ∧ (E0.X ≤ 2) ∧ (∀ n, n ∈ A5.list E0.Color → n ≤ 9) ∧ (v3.length ≤ v4.toNat) ∧ (v4 ≤ 2)) : Tot (Zyk E0 v3 v4).den (Nx Zp9 Zfy (3, (E0.X - v4).toNat, 1000000, 0, 0, 0) (fun r => (SzT r))) := by
 obtain ⟨cv4, i0, i1, i2, i3⟩ := h
 dsimp only [Zyk, LT.den]
 refine tD (fun h1 => ?_) (fun h1 => ?_)
 ·refine tB (tK (by first | (simp only [List.length_append, List.length_cons, List.length_nil]; omega) | omega)) (fun x2 h3 => ?_)
  have q4 : -9223372036854775808 ≤ (v4 + 1) → (v4 + 1) < 9223372036854775808 → IntKind.wrap .i64 (v4 + 1) = (v4 + 1) := Zao _
  have q5 : -9223372036854775808 ≤ IntKind.wrap .i64 (v4 + 1) ∧ IntKind.wrap .i64 (v4 + 1) < 9223372036854775808 := Zap _
  exact tL ⟨cl, cl, cl, cl, cl⟩ (by unfold Zfy lt6; dsimp only; omega)
 ·refine tN (fun h6 => ?_) (fun h6 => ?_)
  ·refine tB (Zja E0.Generic) (fun x7 h8 => ?_)
   replace h8 : (SzN x7) := h8
   have q9 : x7.length ≤ 100 := h8
   refine tB (tK (by first | (simp only [List.length_append, List.length_cons, List.length_nil]; omega) | omega)) (fun x10 h11 => ?_)
   exact tL ⟨cl, cl, cl, cl⟩ (by unfold Zfy lt6; dsimp only; omega)
  ·exact tL ⟨cl, cl, cl, cl⟩ (by unfold Zfy lt6; dsimp only; omega)
theorem Zady (E0 : Zay) (v3 : (List UInt8)) (v5 : Int) (h : (0 ≤ v5) ∧ (v3.length ≤ 200 + 200 * v5.toNat) ∧ (∀ n, n ∈ A5.list E0.Color → n ≤ 9) ∧ (v5 ≤ 5)) : Tot (Zyl E0 v3 v5).den (Nx Zp9 Zfy (1, (5 - v5).toNat, 1000000, 0, 0, 0) (fun r => (SzT r))) := by
 obtain ⟨cv5, i0, i1, i2⟩ := h
 dsimp only [Zyl, LT.den]
 refine tD (fun h1 => ?_) (fun h1 => ?_)
 ·exact tL ⟨cl, cl, cl, cl, cl, cl, cl⟩ (by unfold Zfy lt6; dsimp only; omega)
 ·refine tF (fun h2 => ?_) (fun h2 => ?_)
  ·exact tR (by unfold SzT; first | omega | (simp only [List.length_append, List.length_cons, List.length_nil]; omega))
  ·exact tR (by unfold SzT; first | omega | (simp only [List.length_append, List.length_cons, List.length_nil]; omega))
theorem Zadz (E0 : Zay) (v3 : (List UInt8)) (v5 : Int) (v6 : Int) (h : (0 ≤ v5) ∧ (0 ≤ v6) ∧ (v5 < 5) ∧ (v3.length ≤ 200 + 200 * v5.toNat + v6.toNat) ∧ (∀ n, n ∈ A5.list E0.Color → n ≤ 9) ∧ (v5 < 5) ∧ (v6 ≤ 9)) : Tot (Zym E0 v3 v5 v6).den (Nx Zp9 Zfy (1, (5 - v5).toNat, 1, (9 - v6).toNat, 1000000, 0) (fun r => (SzT r))) := by
 obtain ⟨cv5, cv6, bd2, i0, i1, i2, i3⟩ := h
 dsimp only [Zym, LT.den]
 refine tB (tI (by omega) (by have e : (A5.list E0.Color).length = 5 := rfl; omega)) (fun x1 h2 => ?_)
 have ph2 := i1 x1 h2.1
 refine tD (fun h3 => ?_) (fun h3 => ?_)
 ·have q4 : -9223372036854775808 ≤ (v5 + 1) → (v5 + 1) < 9223372036854775808 → IntKind.wrap .i64 (v5 + 1) = (v5 + 1) := Zao _
  have q5 : -9223372036854775808 ≤ IntKind.wrap .i64 (v5 + 1) ∧ IntKind.wrap .i64 (v5 + 1) < 9223372036854775808 := Zap _
  refine tB ((by  exact Tot.slice (by omega) (by omega) (by first | omega | (simp only [List.length_cons, List.length_nil]; omega)))) (fun x6 h7 => ?_)
  have lh7 := h7.1
  refine tB (tK (by first | (simp only [List.length_append, List.length_cons, List.length_nil]; omega) | omega)) (fun x8 h9 => ?_)
  have q10 : -9223372036854775808 ≤ (v6 + 1) → (v6 + 1) < 9223372036854775808 → IntKind.wrap .i64 (v6 + 1) = (v6 + 1) := Zao _
  have q11 : -9223372036854775808 ≤ IntKind.wrap .i64 (v6 + 1) ∧ IntKind.wrap .i64 (v6 + 1) < 9223372036854775808 := Zap _
  exact tL ⟨cl, cl, cl, cl, cl, cl, cl⟩ (by unfold Zfy lt6; dsimp only; omega)
 ·have q12 : -9223372036854775808 ≤ (v5 + 1) → (v5 + 1) < 9223372036854775808 → IntKind.wrap .i64 (v5 + 1) = (v5 + 1) := Zao _
  have q13 : -9223372036854775808 ≤ IntKind.wrap .i64 (v5 + 1) ∧ IntKind.wrap .i64 (v5 + 1) < 9223372036854775808 := Zap _
  exact tL ⟨cl, cl, cl, cl⟩ (by unfold Zfy lt6; dsimp only; omega)
theorem Zalo (a0 : Zay) : Tot (Z9f a0) (fun r => (SzT r)) := by
 unfold Z9f
 refine tX (Inv := Zp9) (μ := Zfy) (m := (1000000, 0, 0, 0, 0, 0)) ?_ ?_
 ·dsimp only [Zacb, LT.den]
  refine tB (Z1g a0) (fun x1 h2 => ?_)
  replace h2 : (x1 = true → a0.X ≤ 2) ∧ (x1 = true → ∀ n, n ∈ A5.list a0.Color → n ≤ 9) := h2
  have eh2_0 := h2.1
  have eh2_1 := h2.2
  refine tO (fun h3 => ?_) (fun h3 => ?_)
  ·exact tR (SzT.nil)
  ·have h3_0 := eh2_0 h3
   have h3_1 := eh2_1 h3
   exact tL ⟨cl, cl, cl, cl, cl⟩ (by unfold Zfy lt6; dsimp only; omega)
 ·intro s hs
  cases s with
  | L0 E0 v3 v4 => exact Zadx E0 v3 v4 hs
  | L1 E0 v3 v5 => exact Zady E0 v3 v5 hs
  | L2 E0 v3 v5 v6 => exact Zadz E0 v3 v5 v6 hs
theorem Z94 (a0 : (A6 Int)) : Tot (Zvl a0) (fun r => (SzT r)) := by
 unfold Zvl
 refine tZ ?_
 dsimp only [Zzu, LT.den]
 refine tB (Zaln a0) (fun x1 h2 => ?_)
 refine tB (Zalo x1) (fun x3 h4 => ?_)
 replace h4 : (SzT x3) := h4
 exact tR h4
theorem Zafn (a0 : Int) (a1 : Zh) (oa1 : Za9 a1) : Tot (Z0v a0 a1) (fun r => True) := by
 unfold Z0v
 refine tZ ?_
 dsimp only [Z3v, LT.den]
 refine tE (fun h1 => ?_) (fun h1 => ?_)
 ·refine tB (Zgn a1 oa1) (fun x2 h3 => ?_)
  replace h3 : (x2 = true → 0 ≤ a1.Zone ∧ a1.Zone ≤ 5 ∧ 0 ≤ a1.Who ∧ a1.Who ≤ 2 ∧ 0 ≤ a1.Self ∧ a1.Self ≤ 2 ∧ 0 ≤ a1.Tap ∧ a1.Tap ≤ 2 ∧ 0 ≤ a1.Power.Kind ∧ a1.Power.Kind ≤ 3 ∧ 0 ≤ a1.Tough.Kind ∧ a1.Tough.Kind ≤ 3 ∧ 0 ≤ a1.Value.Kind ∧ a1.Value.Kind ≤ 3) := h3
  have eh3_0 := h3
  refine tF (fun h4 => ?_) (fun h4 => ?_)
  ·have h4_0 := eh3_0 h4
   exact tR trivial
  ·exact tR trivial
 ·refine tB (Zgn a1 oa1) (fun x5 h6 => ?_)
  replace h6 : (x5 = true → 0 ≤ a1.Zone ∧ a1.Zone ≤ 5 ∧ 0 ≤ a1.Who ∧ a1.Who ≤ 2 ∧ 0 ≤ a1.Self ∧ a1.Self ≤ 2 ∧ 0 ≤ a1.Tap ∧ a1.Tap ≤ 2 ∧ 0 ≤ a1.Power.Kind ∧ a1.Power.Kind ≤ 3 ∧ 0 ≤ a1.Tough.Kind ∧ a1.Tough.Kind ≤ 3 ∧ 0 ≤ a1.Value.Kind ∧ a1.Value.Kind ≤ 3) := h6
  have eh6_0 := h6
  refine tF (fun h7 => ?_) (fun h7 => ?_)
  ·have h7_0 := eh6_0 h7
   exact tR trivial
  ·exact tR trivial
def Zhv : Zhn → Prop
 | .L0 E0 v5 => (Zaa E0) ∧ True
 | .L1 E0 v5 v6 => (Zaa E0) ∧ True
 | .L2 E0 v5 v6 v7 => (Zaa E0) ∧ True
 | .L3 E0 v5 v6 v7 v8 => (Zaa E0) ∧ True
 | .L4 E0 v5 v6 v7 v8 v9 => (Zaa E0) ∧ True
 | .L5 E0 v5 v6 v7 v8 v9 v10 => (Zaa E0) ∧ True
 | .L6 E0 v5 v6 v7 v8 v9 v10 v11 => (Zaa E0) ∧ True
 | .L7 v5 v6 v7 v8 v9 v10 v11 v12 => True
def Zio : Zhn → M6
 | .L0 E0 v5 => (0, 0, 0, 0, 0, 0)
 | .L1 E0 v5 v6 => (0, 0, 0, 0, 0, 0)
 | .L2 E0 v5 v6 v7 => (0, 0, 0, 0, 0, 0)
 | .L3 E0 v5 v6 v7 v8 => (0, 0, 0, 0, 0, 0)
 | .L4 E0 v5 v6 v7 v8 v9 => (0, 0, 0, 0, 0, 0)
 | .L5 E0 v5 v6 v7 v8 v9 v10 => (0, 0, 0, 0, 0, 0)
 | .L6 E0 v5 v6 v7 v8 v9 v10 v11 => (0, 0, 0, 0, 0, 0)
 | .L7 v5 v6 v7 v8 v9 v10 v11 v12 => (0, 0, 0, 0, 0, 0)
theorem Ztn (v5 : Bool) (v6 : Bool) (v7 : Bool) (v8 : Bool) (v9 : Bool) (v10 : Bool) (v11 : Bool) (v12 : Bool) (h : True) : Tot (Zr1 v5 v6 v7 v8 v9 v10 v11 v12).den (Nx Zhv Zio (0, 0, 0, 0, 0, 0) (fun r => True)) := by
 dsimp only [Zr1, LT.den]
 refine tF (fun h1 => ?_) (fun h1 => ?_)
 ·refine tF (fun h2 => ?_) (fun h2 => ?_)
  ·refine tF (fun h3 => ?_) (fun h3 => ?_)
   ·refine tF (fun h4 => ?_) (fun h4 => ?_)
    ·refine tF (fun h5 => ?_) (fun h5 => ?_)
     ·refine tF (fun h6 => ?_) (fun h6 => ?_)
      ·refine tF (fun h7 => ?_) (fun h7 => ?_)
       ·exact tR trivial
       ·exact tR trivial
      ·exact tR trivial
     ·exact tR trivial
    ·exact tR trivial
   ·exact tR trivial
  ·exact tR trivial
 ·exact tR trivial
theorem Zn6 (E0 : Zl) (v5 : Bool) (v6 : Bool) (v7 : Bool) (v8 : Bool) (v9 : Bool) (v10 : Bool) (v11 : Bool) (h : (Zaa E0) ∧ True) : Tot (Zov E0 v5 v6 v7 v8 v9 v10 v11).den (Nx Zhv Zio (0, 0, 0, 0, 0, 0) (fun r => True)) := by
 obtain ⟨ob30000000, _⟩ := h
 dsimp only [Zov, LT.den]
 refine tB (Zhg E0.Op 102) (fun x1 h2 => ?_)
 refine tF (fun h3 => ?_) (fun h3 => ?_)
 ·refine tB (Zafn E0.Op E0.Filter ob30000000.2.2.2.1) (fun x4 h5 => ?_)
  exact tJ (Ztn v5 v6 v7 v8 v9 v10 v11 x4 trivial)
 ·exact tJ (Ztn v5 v6 v7 v8 v9 v10 v11 (Zw (Zq E0.Filter) (Zq (⟨0, 0, 0, 0, 0, 0, 0, ([] : List UInt8), 0, 0, (⟨0, 0⟩ : Zc), (⟨0, 0⟩ : Zc), (⟨0, 0⟩ : Zc)⟩ : Zh))) trivial)
theorem Zto (E0 : Zl) (v5 : Bool) (v6 : Bool) (v7 : Bool) (v8 : Bool) (v9 : Bool) (v10 : Bool) (h : (Zaa E0) ∧ True) : Tot (Zr2 E0 v5 v6 v7 v8 v9 v10).den (Nx Zhv Zio (0, 0, 0, 0, 0, 0) (fun r => True)) := by
 obtain ⟨ob30000000, _⟩ := h
 dsimp only [Zr2, LT.den]
 refine tB (Zhg E0.Op 112) (fun x1 h2 => ?_)
 refine tF (fun h3 => ?_) (fun h3 => ?_)
 ·refine tO (fun h4 => ?_) (fun h4 => ?_)
  ·refine tB (Z94 E0.Pool) (fun x5 h6 => ?_)
   replace h6 : (SzT x5) := h6
   exact tJ (Zn6 E0 v5 v6 v7 v8 v9 v10 (!(x5 == ([] : List UInt8))) ⟨ob30000000, trivial⟩)
  ·exact tJ (Zn6 E0 v5 v6 v7 v8 v9 v10 false ⟨ob30000000, trivial⟩)
 ·exact tJ (Zn6 E0 v5 v6 v7 v8 v9 v10 (Zw ((cA6 (cI .i64)) E0.Pool) ((cA6 (cI .i64)) (⟨0, 0, 0, 0, 0, 0⟩ : (A6 Int)))) ⟨ob30000000, trivial⟩)
theorem Ztp (E0 : Zl) (v5 : Bool) (v6 : Bool) (v7 : Bool) (v8 : Bool) (v9 : Bool) (h : (Zaa E0) ∧ True) : Tot (Zr3 E0 v5 v6 v7 v8 v9).den (Nx Zhv Zio (0, 0, 0, 0, 0, 0) (fun r => True)) := by
 obtain ⟨ob30000000, _⟩ := h
 dsimp only [Zr3, LT.den]
 have q1 : E0.Mods.length * 176 ≤ 140737488351232 := ob30000000.2.2.2.2.1
 refine tB (Zhg E0.Op 109) (fun x2 h3 => ?_)
 refine tF (fun h4 => ?_) (fun h4 => ?_)
 ·refine tB (Zalm E0.Mods ob30000000.2.2.2.2) (fun x5 h6 => ?_)
  exact tJ (Zto E0 v5 v6 v7 v8 v9 x5 ⟨ob30000000, trivial⟩)
 ·exact tJ (Zto E0 v5 v6 v7 v8 v9 ((E0.Mods.length : Int) == 0) ⟨ob30000000, trivial⟩)
theorem Ztq (E0 : Zl) (v5 : Bool) (v6 : Bool) (v7 : Bool) (v8 : Bool) (h : (Zaa E0) ∧ True) : Tot (Zr4 E0 v5 v6 v7 v8).den (Nx Zhv Zio (0, 0, 0, 0, 0, 0) (fun r => True)) := by
 obtain ⟨ob30000000, _⟩ := h
 dsimp only [Zr4, LT.den]
 refine tB (Zhg E0.Op 97) (fun x1 h2 => ?_)
 refine tF (fun h3 => ?_) (fun h3 => ?_)
 ·refine tB (Zao2 E0.Amount ob30000000.2.1) (fun x4 h5 => ?_)
  exact tJ (Ztp E0 v5 v6 v7 v8 x4 ⟨ob30000000, trivial⟩)
 ·exact tJ (Ztp E0 v5 v6 v7 v8 (Zw (Zbc E0.Amount) (Zbc (⟨0, 0, 0, (⟨0, 0, 0, 0, 0, 0, 0, ([] : List UInt8), 0, 0, (⟨0, 0⟩ : Zc), (⟨0, 0⟩ : Zc), (⟨0, 0⟩ : Zc)⟩ : Zh)⟩ : Zcf))) ⟨ob30000000, trivial⟩)
theorem Zn7 (E0 : Zl) (v5 : Bool) (v6 : Bool) (v7 : Bool) (h : (Zaa E0) ∧ True) : Tot (Zow E0 v5 v6 v7).den (Nx Zhv Zio (0, 0, 0, 0, 0, 0) (fun r => True)) := by
 obtain ⟨ob30000000, _⟩ := h
 dsimp only [Zow, LT.den]
 refine tB (Zhg E0.Op 99) (fun x1 h2 => ?_)
 refine tF (fun h3 => ?_) (fun h3 => ?_)
 ·refine tB (Z1f E0.Card (SzS.t ob30000000.2.2.1)) (fun x4 h5 => ?_)
  exact tJ (Ztq E0 v5 v6 v7 x4 ⟨ob30000000, trivial⟩)
 ·exact tJ (Ztq E0 v5 v6 v7 (E0.Card == ([] : List UInt8)) ⟨ob30000000, trivial⟩)
theorem Zkj (E0 : Zl) (v5 : Bool) (v6 : Bool) (h : (Zaa E0) ∧ True) : Tot (Zlh E0 v5 v6).den (Nx Zhv Zio (0, 0, 0, 0, 0, 0) (fun r => True)) := by
 obtain ⟨ob30000000, _⟩ := h
 dsimp only [Zlh, LT.den]
 refine tE (fun h1 => ?_) (fun h1 => ?_)
 ·exact tJ (Zn7 E0 v5 v6 true ⟨ob30000000, trivial⟩)
 ·refine tB (Zhg E0.Op 107) (fun x2 h3 => ?_)
  refine tF (fun h4 => ?_) (fun h4 => ?_)
  ·refine tB (Z47 E0.Counter) (fun x5 h6 => ?_)
   replace h6 : (SzN x5) := h6
   exact tJ (Zn7 E0 v5 v6 (!(x5 == ([] : List UInt8))) ⟨ob30000000, trivial⟩)
  ·exact tJ (Zn7 E0 v5 v6 false ⟨ob30000000, trivial⟩)
theorem Ztr (E0 : Zl) (v5 : Bool) (h : (Zaa E0) ∧ True) : Tot (Zr5 E0 v5).den (Nx Zhv Zio (0, 0, 0, 0, 0, 0) (fun r => True)) := by
 obtain ⟨ob30000000, _⟩ := h
 dsimp only [Zr5, LT.den]
 refine tE (fun h1 => ?_) (fun h1 => ?_)
 ·exact tJ (Zkj E0 v5 true ⟨ob30000000, trivial⟩)
 ·refine tB (Zhg E0.Op 122) (fun x2 h3 => ?_)
  refine tF (fun h4 => ?_) (fun h4 => ?_)
  ·refine tD (fun h5 => ?_) (fun h5 => ?_)
   ·exact tJ (Zkj E0 v5 (decide (E0.Zone ≤ 4)) ⟨ob30000000, trivial⟩)
   ·exact tJ (Zkj E0 v5 false ⟨ob30000000, trivial⟩)
  ·exact tJ (Zkj E0 v5 false ⟨ob30000000, trivial⟩)
theorem Zao3 (a0 : Zl) (a1 : Int) (oa0 : Zaa a0) : Tot (Zaj7 a0 a1) (fun r => True) := by
 unfold Zaj7
 refine tX (Inv := Zhv) (μ := Zio) (m := (1000000, 0, 0, 0, 0, 0)) ?_ ?_
 ·dsimp only [Zaj5, LT.den]
  refine tB (Zalk a0.Op) (fun x1 h2 => ?_)
  replace h2 : (SzN x1) := h2
  refine tF (fun h3 => ?_) (fun h3 => ?_)
  ·exact tR trivial
  ·refine tB (Zhg a0.Op 114) (fun x4 h5 => ?_)
   refine tF (fun h6 => ?_) (fun h6 => ?_)
   ·refine tB (Zao1 a0.Ref a1 oa0.1) (fun x7 h8 => ?_)
    exact tJ (Ztr a0 x7 ⟨oa0, trivial⟩)
   ·exact tJ (Ztr a0 (Zw (Zcu a0.Ref) (Zcu (⟨0, 0, (⟨0, 0, 0, 0, 0, 0, 0, ([] : List UInt8), 0, 0, (⟨0, 0⟩ : Zc), (⟨0, 0⟩ : Zc), (⟨0, 0⟩ : Zc)⟩ : Zh)⟩ : Zeq))) ⟨oa0, trivial⟩)
 ·intro s hs
  cases s with
  | L0 E0 v5 => exact Ztr E0 v5 hs
  | L1 E0 v5 v6 => exact Zkj E0 v5 v6 hs
  | L2 E0 v5 v6 v7 => exact Zn7 E0 v5 v6 v7 hs
  | L3 E0 v5 v6 v7 v8 => exact Ztq E0 v5 v6 v7 v8 hs
  | L4 E0 v5 v6 v7 v8 v9 => exact Ztp E0 v5 v6 v7 v8 v9 hs
  | L5 E0 v5 v6 v7 v8 v9 v10 => exact Zto E0 v5 v6 v7 v8 v9 v10 hs
  | L6 E0 v5 v6 v7 v8 v9 v10 v11 => exact Zn6 E0 v5 v6 v7 v8 v9 v10 v11 hs
  | L7 v5 v6 v7 v8 v9 v10 v11 v12 => exact Ztn v5 v6 v7 v8 v9 v10 v11 v12 hs
def Zxu : Zkc → Prop
 | .L0 v0 v1 v5 => ((SzL 560 Zaa) v0) ∧ (0 ≤ v5)
def Zmr : Zkc → M6
 | .L0 v0 v1 v5 => (1, ((v0.length : Int) - v5).toNat, 1000000, 0, 0, 0)
theorem Z49 (v0 : (List Zl)) (v1 : Int) (v5 : Int) (h : ((SzL 560 Zaa) v0) ∧ (0 ≤ v5)) : Tot (Zqq v0 v1 v5).den (Nx Zxu Zmr (1, ((v0.length : Int) - v5).toNat, 1000000, 0, 0, 0) (fun r => True)) := by
 obtain ⟨ov0, cv5⟩ := h
 have lb_v0 : v0.length * 560 ≤ 140737488351232 := ov0.1
 dsimp only [Zqq, LT.den]
 have q1 : v0.length * 560 ≤ 140737488351232 := ov0.1
 refine tD (fun h2 => ?_) (fun h2 => ?_)
 ·refine tB (tI (by omega) (by omega)) (fun x3 h4 => ?_)
  have oh4 : Zaa x3 := ov0.2 x3 h4.1
  refine tB (Zao3 x3 v1 oh4) (fun x5 h6 => ?_)
  refine tO (fun h7 => ?_) (fun h7 => ?_)
  ·exact tR trivial
  ·have q8 : -9223372036854775808 ≤ (v5 + 1) → (v5 + 1) < 9223372036854775808 → IntKind.wrap .i64 (v5 + 1) = (v5 + 1) := Zao _
   have q9 : -9223372036854775808 ≤ IntKind.wrap .i64 (v5 + 1) ∧ IntKind.wrap .i64 (v5 + 1) < 9223372036854775808 := Zap _
   exact tL ⟨ov0, cl⟩ (by unfold Zmr lt6; dsimp only; omega)
 ·refine tD (fun h10 => ?_) (fun h10 => ?_)
  ·exact tR trivial
  ·exact tR trivial
theorem Zad0 (a0 : (List Zl)) (a1 : Int) (oa0 : (SzL 560 Zaa) a0) : Tot (Zyn a0 a1) (fun r => True) := by
 unfold Zyn
 refine tX (Inv := Zxu) (μ := Zmr) (m := (1000000, 0, 0, 0, 0, 0)) ?_ ?_
 ·have lb_a0 : a0.length * 560 ≤ 140737488351232 := oa0.1
  dsimp only [Z1q, LT.den]
  exact tL ⟨oa0, cl⟩ (by unfold Zmr lt6; dsimp only; omega)
 ·intro s hs
  cases s with
  | L0 v0 v1 v5 => exact Z49 v0 v1 v5 hs
def Zms : Zjq → Prop
 | .L0 E0 v3 => (Za1 E0) ∧ True
 | .L1 E0 v3 => (Za1 E0) ∧ True
 | .L2 E0 v3 => (Za1 E0) ∧ True
 | .L3 E0 v3 => (Za1 E0) ∧ True
 | .L4 E0 v3 => (Za1 E0) ∧ True
def Zo1 : Zjq → M6
 | .L0 E0 v3 => (0, 0, 0, 0, 0, 0)
 | .L1 E0 v3 => (0, 0, 0, 0, 0, 0)
 | .L2 E0 v3 => (0, 0, 0, 0, 0, 0)
 | .L3 E0 v3 => (0, 0, 0, 0, 0, 0)
 | .L4 E0 v3 => (0, 0, 0, 0, 0, 0)
theorem Zts (E0 : Zk) (v3 : Bool) (h : (Za1 E0) ∧ True) : Tot (Zr6 E0 v3).den (Nx Zms Zo1 (0, 0, 0, 0, 0, 0) (fun r => True)) := by
 obtain ⟨ob30000000, _⟩ := h
 dsimp only [Zr6, LT.den]
 refine tF (fun h1 => ?_) (fun h1 => ?_)
 ·refine tB (Zahd E0.Specs ob30000000.2.2.2.1) (fun x2 h3 => ?_)
  refine tF (fun h4 => ?_) (fun h4 => ?_)
  ·have q5 : E0.Specs.length * 144 ≤ 140737488351232 := ob30000000.2.2.2.1.1
   refine tB (Zad0 E0.Effects (E0.Specs.length : Int) ob30000000.2.2.2.2.1) (fun x6 h7 => ?_)
   exact tR trivial
  ·exact tR trivial
 ·have q8 : E0.Specs.length * 144 ≤ 140737488351232 := ob30000000.2.2.2.1.1
  refine tE (fun h9 => ?_) (fun h9 => ?_)
  ·have q10 : E0.Effects.length * 560 ≤ 140737488351232 := ob30000000.2.2.2.2.1.1
   exact tR trivial
  ·exact tR trivial
theorem Ztt (E0 : Zk) (v3 : Bool) (h : (Za1 E0) ∧ True) : Tot (Zr7 E0 v3).den (Nx Zms Zo1 (0, 0, 0, 0, 0, 0) (fun r => True)) := by
 obtain ⟨ob30000000, _⟩ := h
 dsimp only [Zr7, LT.den]
 refine tE (fun h1 => ?_) (fun h1 => ?_)
 ·refine tB (Zao0 E0.Replace ob30000000.2.2.2.2.2) (fun x2 h3 => ?_)
  refine tO (fun h4 => ?_) (fun h4 => ?_)
  ·exact tR trivial
  ·exact tJ (Zts E0 v3 ⟨ob30000000, trivial⟩)
 ·refine tO (fun h5 => ?_) (fun h5 => ?_)
  ·exact tR trivial
  ·exact tJ (Zts E0 v3 ⟨ob30000000, trivial⟩)
theorem Ztu (E0 : Zk) (v3 : Bool) (h : (Za1 E0) ∧ True) : Tot (Zr8 E0 v3).den (Nx Zms Zo1 (0, 0, 0, 0, 0, 0) (fun r => True)) := by
 obtain ⟨ob30000000, _⟩ := h
 dsimp only [Zr8, LT.den]
 refine tE (fun h1 => ?_) (fun h1 => ?_)
 ·refine tB (Zaoz E0.Trigger ob30000000.2.2.1) (fun x2 h3 => ?_)
  refine tO (fun h4 => ?_) (fun h4 => ?_)
  ·exact tR trivial
  ·exact tJ (Ztt E0 v3 ⟨ob30000000, trivial⟩)
 ·refine tO (fun h5 => ?_) (fun h5 => ?_)
  ·exact tR trivial
  ·refine tF (fun h6 => ?_) (fun h6 => ?_)
   ·exact tR trivial
   ·exact tJ (Ztt E0 v3 ⟨ob30000000, trivial⟩)
theorem Ztv (E0 : Zk) (v3 : Bool) (h : (Za1 E0) ∧ True) : Tot (Zr9 E0 v3).den (Nx Zms Zo1 (0, 0, 0, 0, 0, 0) (fun r => True)) := by
 obtain ⟨ob30000000, _⟩ := h
 dsimp only [Zr9, LT.den]
 refine tE (fun h1 => ?_) (fun h1 => ?_)
 ·refine tB (Zaha E0.Price) (fun x2 h3 => ?_)
  refine tO (fun h4 => ?_) (fun h4 => ?_)
  ·exact tR trivial
  ·exact tJ (Ztu E0 v3 ⟨ob30000000, trivial⟩)
 ·refine tO (fun h5 => ?_) (fun h5 => ?_)
  ·exact tR trivial
  ·refine tF (fun h6 => ?_) (fun h6 => ?_)
   ·exact tR trivial
   ·exact tJ (Ztu E0 v3 ⟨ob30000000, trivial⟩)
theorem Zn8 (E0 : Zk) (v3 : Bool) (h : (Za1 E0) ∧ True) : Tot (Zox E0 v3).den (Nx Zms Zo1 (0, 0, 0, 0, 0, 0) (fun r => True)) := by
 obtain ⟨ob30000000, _⟩ := h
 dsimp only [Zox, LT.den]
 refine tE (fun h1 => ?_) (fun h1 => ?_)
 ·refine tB (Zgn E0.Filter ob30000000.1) (fun x2 h3 => ?_)
  replace h3 : (x2 = true → 0 ≤ E0.Filter.Zone ∧ E0.Filter.Zone ≤ 5 ∧ 0 ≤ E0.Filter.Who ∧ E0.Filter.Who ≤ 2 ∧ 0 ≤ E0.Filter.Self ∧ E0.Filter.Self ≤ 2 ∧ 0 ≤ E0.Filter.Tap ∧ E0.Filter.Tap ≤ 2 ∧ 0 ≤ E0.Filter.Power.Kind ∧ E0.Filter.Power.Kind ≤ 3 ∧ 0 ≤ E0.Filter.Tough.Kind ∧ E0.Filter.Tough.Kind ≤ 3 ∧ 0 ≤ E0.Filter.Value.Kind ∧ E0.Filter.Value.Kind ≤ 3) := h3
  have eh3_0 := h3
  refine tO (fun h4 => ?_) (fun h4 => ?_)
  ·exact tR trivial
  ·have h4_0 := eh3_0 h4
   refine tN (fun h5 => ?_) (fun h5 => ?_)
   ·exact tR trivial
   ·refine tB (Zom E0.Mods ob30000000.2.1) (fun x6 h7 => ?_)
    replace h7 : (x6.length ≤ 4611686018427387904) := h7
    have eh7_0 := h7
    try simp only [List.length_nil, List.length_cons, Nat.zero_add] at eh7_0
    refine tF (fun h8 => ?_) (fun h8 => ?_)
    ·exact tR trivial
    ·exact tJ (Ztv E0 v3 ⟨ob30000000, trivial⟩)
 ·refine tO (fun h9 => ?_) (fun h9 => ?_)
  ·exact tR trivial
  ·have q10 : E0.Mods.length * 176 ≤ 140737488351232 := ob30000000.2.1.1
   refine tD (fun h11 => ?_) (fun h11 => ?_)
   ·exact tR trivial
   ·exact tJ (Ztv E0 v3 ⟨ob30000000, trivial⟩)
theorem Zuk (a0 : Zk) (oa0 : Za1 a0) : Tot (Zaka a0) (fun r => True) := by
 unfold Zaka
 refine tX (Inv := Zms) (μ := Zo1) (m := (1000000, 0, 0, 0, 0, 0)) ?_ ?_
 ·dsimp only [Zaj8, LT.den]
  refine tD (fun h1 => ?_) (fun h1 => ?_)
  ·exact tR trivial
  ·refine tD (fun h2 => ?_) (fun h2 => ?_)
   ·exact tR trivial
   ·refine tE (fun h3 => ?_) (fun h3 => ?_)
    ·exact tJ (Zn8 a0 true ⟨oa0, trivial⟩)
    ·refine tE (fun h4 => ?_) (fun h4 => ?_)
     ·exact tJ (Zn8 a0 true ⟨oa0, trivial⟩)
     ·exact tJ (Zn8 a0 (a0.Kind == 4) ⟨oa0, trivial⟩)
 ·intro s hs
  cases s with
  | L0 E0 v3 => exact Zn8 E0 v3 hs
  | L1 E0 v3 => exact Ztv E0 v3 hs
  | L2 E0 v3 => exact Ztu E0 v3 hs
  | L3 E0 v3 => exact Ztt E0 v3 hs
  | L4 E0 v3 => exact Zts E0 v3 hs
theorem Zalp (a0 : Zt) (oa0 : Zai a0) : Tot (Z9g a0) (fun r => True) := by
 unfold Z9g
 refine tZ ?_
 dsimp only [Zace, LT.den]
 refine tE (fun h1 => ?_) (fun h1 => ?_)
 ·exact tR trivial
 ·exact tR trivial
def Z1i : Zqr → Prop
 | .L0 E0 => (Zai E0) ∧ True
 | .L1 E0 v3 v4 => (Zai E0) ∧ (0 ≤ v4)
def Zo2 : Zqr → M6
 | .L0 E0 => (2, 0, 0, 0, 0, 0)
 | .L1 E0 v3 v4 => (1, ((E0.Abilities.length : Int) - v4).toNat, 1000000, 0, 0, 0)
theorem Ztw (E0 : Zt) (h : (Zai E0) ∧ True) : Tot (Zsa E0).den (Nx Z1i Zo2 (2, 0, 0, 0, 0, 0) (fun r => True)) := by
 obtain ⟨ob30000000, _⟩ := h
 dsimp only [Zsa, LT.den]
 exact tL ⟨ob30000000, cl⟩ (by unfold Zo2 lt6; dsimp only; omega)
theorem Zahe (E0 : Zt) (v3 : Int) (v4 : Int) (h : (Zai E0) ∧ (0 ≤ v4)) : Tot (Z3x E0 v3 v4).den (Nx Z1i Zo2 (1, ((E0.Abilities.length : Int) - v4).toNat, 1000000, 0, 0, 0) (fun r => True)) := by
 obtain ⟨ob30000000, cv4⟩ := h
 dsimp only [Z3x, LT.den]
 have q1 : E0.Abilities.length * 640 ≤ 140737488351232 := ob30000000.2.2.1
 refine tD (fun h2 => ?_) (fun h2 => ?_)
 ·refine tB (tI (by omega) (by omega)) (fun x3 h4 => ?_)
  have oh4 : Za1 x3 := ob30000000.2.2.2 x3 h4.1
  refine tB (Zuk x3 oh4) (fun x5 h6 => ?_)
  refine tO (fun h7 => ?_) (fun h7 => ?_)
  ·exact tR trivial
  ·refine tE (fun h8 => ?_) (fun h8 => ?_)
   ·have q9 : -9223372036854775808 ≤ (v3 + 1) → (v3 + 1) < 9223372036854775808 → IntKind.wrap .i64 (v3 + 1) = (v3 + 1) := Zao _
    have q10 : -9223372036854775808 ≤ IntKind.wrap .i64 (v3 + 1) ∧ IntKind.wrap .i64 (v3 + 1) < 9223372036854775808 := Zap _
    have q11 : -9223372036854775808 ≤ (v4 + 1) → (v4 + 1) < 9223372036854775808 → IntKind.wrap .i64 (v4 + 1) = (v4 + 1) := Zao _
    have q12 : -9223372036854775808 ≤ IntKind.wrap .i64 (v4 + 1) ∧ IntKind.wrap .i64 (v4 + 1) < 9223372036854775808 := Zap _
    exact tL ⟨ob30000000, cl⟩ (by unfold Zo2 lt6; dsimp only; omega)
   ·have q13 : -9223372036854775808 ≤ (v4 + 1) → (v4 + 1) < 9223372036854775808 → IntKind.wrap .i64 (v4 + 1) = (v4 + 1) := Zao _
    have q14 : -9223372036854775808 ≤ IntKind.wrap .i64 (v4 + 1) ∧ IntKind.wrap .i64 (v4 + 1) < 9223372036854775808 := Zap _
    exact tL ⟨ob30000000, cl⟩ (by unfold Zo2 lt6; dsimp only; omega)
 ·refine tB (Zalp E0 ob30000000) (fun x15 h16 => ?_)
  refine tF (fun h17 => ?_) (fun h17 => ?_)
  ·refine tO (fun h18 => ?_) (fun h18 => ?_)
   ·refine tE (fun h19 => ?_) (fun h19 => ?_)
    ·refine tE (fun h20 => ?_) (fun h20 => ?_)
     ·exact tR trivial
     ·exact tR trivial
    ·exact tR trivial
   ·exact tR trivial
  ·refine tE (fun h21 => ?_) (fun h21 => ?_)
   ·refine tO (fun h22 => ?_) (fun h22 => ?_)
    ·refine tE (fun h23 => ?_) (fun h23 => ?_)
     ·exact tR trivial
     ·exact tR trivial
    ·exact tR trivial
   ·exact tR trivial
theorem Zao4 (a0 : Zt) (oa0 : Zai a0) : Tot (Zakd a0) (fun r => True) := by
 unfold Zakd
 refine tX (Inv := Z1i) (μ := Zo2) (m := (1000000, 0, 0, 0, 0, 0)) ?_ ?_
 ·dsimp only [Zakb, LT.den]
  refine tB (Z1f a0.Name (SzS.t oa0.1)) (fun x1 h2 => ?_)
  refine tO (fun h3 => ?_) (fun h3 => ?_)
  ·exact tR trivial
  ·refine tB (Z1g a0.Cost) (fun x4 h5 => ?_)
   replace h5 : (x4 = true → a0.Cost.X ≤ 2) ∧ (x4 = true → ∀ n, n ∈ A5.list a0.Cost.Color → n ≤ 9) := h5
   have eh5_0 := h5.1
   have eh5_1 := h5.2
   refine tO (fun h6 => ?_) (fun h6 => ?_)
   ·exact tR trivial
   ·have h6_0 := eh5_0 h6
    have h6_1 := eh5_1 h6
    refine tB (Zaox a0.Line oa0.2.1) (fun x7 h8 => ?_)
    refine tO (fun h9 => ?_) (fun h9 => ?_)
    ·exact tR trivial
    ·refine tB (Zadj a0.Keys) (fun x10 h11 => ?_)
     refine tO (fun h12 => ?_) (fun h12 => ?_)
     ·exact tR trivial
     ·refine tD (fun h13 => ?_) (fun h13 => ?_)
      ·exact tR trivial
      ·refine tD (fun h14 => ?_) (fun h14 => ?_)
       ·exact tR trivial
       ·refine tD (fun h15 => ?_) (fun h15 => ?_)
        ·exact tR trivial
        ·refine tD (fun h16 => ?_) (fun h16 => ?_)
         ·exact tR trivial
         ·refine tD (fun h17 => ?_) (fun h17 => ?_)
          ·exact tR trivial
          ·refine tD (fun h18 => ?_) (fun h18 => ?_)
           ·exact tR trivial
           ·refine tB (Z9y a0 oa0) (fun x19 h20 => ?_)
            refine tO (fun h21 => ?_) (fun h21 => ?_)
            ·refine tN (fun h22 => ?_) (fun h22 => ?_)
             ·exact tR trivial
             ·refine tN (fun h23 => ?_) (fun h23 => ?_)
              ·exact tR trivial
              ·have q24 : a0.Abilities.length * 640 ≤ 140737488351232 := oa0.2.2.1
               refine tD (fun h25 => ?_) (fun h25 => ?_)
               ·exact tR trivial
               ·exact tJ (Ztw a0 ⟨oa0, trivial⟩)
            ·have q26 : a0.Abilities.length * 640 ≤ 140737488351232 := oa0.2.2.1
             refine tD (fun h27 => ?_) (fun h27 => ?_)
             ·exact tR trivial
             ·exact tJ (Ztw a0 ⟨oa0, trivial⟩)
 ·intro s hs
  cases s with
  | L0 E0 => exact Ztw E0 hs
  | L1 E0 v3 v4 => exact Zahe E0 v3 v4 hs
def Z5a : Zpn → Prop
 | .L0 v0 v1 v5 => ((SzL 176 Zai) v0) ∧ (SzT v1) ∧ (0 ≤ v5)
def Zri : Zpn → M6
 | .L0 v0 v1 v5 => (1, ((v0.length : Int) - v5).toNat, 1000000, 0, 0, 0)
theorem Zad1 (v0 : (List Zt)) (v1 : (List UInt8)) (v5 : Int) (h : ((SzL 176 Zai) v0) ∧ (SzT v1) ∧ (0 ≤ v5)) : Tot (Zyo v0 v1 v5).den (Nx Z5a Zri (1, ((v0.length : Int) - v5).toNat, 1000000, 0, 0, 0) (fun r => True)) := by
 obtain ⟨ov0, ov1, cv5⟩ := h
 have lb_v0 : v0.length * 176 ≤ 140737488351232 := ov0.1
 have lb_v1 : v1.length ≤ 562949953421312 := ov1
 dsimp only [Zyo, LT.den]
 have q1 : v0.length * 176 ≤ 140737488351232 := ov0.1
 refine tD (fun h2 => ?_) (fun h2 => ?_)
 ·refine tB (tI (by omega) (by omega)) (fun x3 h4 => ?_)
  have oh4 : Zai x3 := ov0.2 x3 h4.1
  refine tF (fun h5 => ?_) (fun h5 => ?_)
  ·exact tR trivial
  ·have q6 : -9223372036854775808 ≤ (v5 + 1) → (v5 + 1) < 9223372036854775808 → IntKind.wrap .i64 (v5 + 1) = (v5 + 1) := Zao _
   have q7 : -9223372036854775808 ≤ IntKind.wrap .i64 (v5 + 1) ∧ IntKind.wrap .i64 (v5 + 1) < 9223372036854775808 := Zap _
   exact tL ⟨ov0, ov1, cl⟩ (by unfold Zri lt6; dsimp only; omega)
 ·exact tR trivial
theorem Zalq (a0 : (List Zt)) (a1 : (List UInt8)) (oa0 : (SzL 176 Zai) a0) (oa1 : SzT a1) : Tot (Z9h a0 a1) (fun r => True) := by
 unfold Z9h
 refine tX (Inv := Z5a) (μ := Zri) (m := (1000000, 0, 0, 0, 0, 0)) ?_ ?_
 ·have lb_a0 : a0.length * 176 ≤ 140737488351232 := oa0.1
  have lb_a1 : a1.length ≤ 562949953421312 := oa1
  dsimp only [Zacg, LT.den]
  exact tL ⟨oa0, oa1, cl⟩ (by unfold Zri lt6; dsimp only; omega)
 ·intro s hs
  cases s with
  | L0 v0 v1 v5 => exact Zad1 v0 v1 v5 hs
def Z2g : Znb → Prop
 | .L0 v0 v1 v5 => ((SzL 176 Zai) v0) ∧ (SzT v1) ∧ (0 ≤ v5)
def Zl2 : Znb → M6
 | .L0 v0 v1 v5 => (1, ((v0.length : Int) - v5).toNat, 1000000, 0, 0, 0)
theorem Z95 (v0 : (List Zt)) (v1 : (List UInt8)) (v5 : Int) (h : ((SzL 176 Zai) v0) ∧ (SzT v1) ∧ (0 ≤ v5)) : Tot (Zvm v0 v1 v5).den (Nx Z2g Zl2 (1, ((v0.length : Int) - v5).toNat, 1000000, 0, 0, 0) (fun r => True)) := by
 obtain ⟨ov0, ov1, cv5⟩ := h
 have lb_v0 : v0.length * 176 ≤ 140737488351232 := ov0.1
 have lb_v1 : v1.length ≤ 562949953421312 := ov1
 dsimp only [Zvm, LT.den]
 have q1 : v0.length * 176 ≤ 140737488351232 := ov0.1
 refine tD (fun h2 => ?_) (fun h2 => ?_)
 ·refine tB (tI (by omega) (by omega)) (fun x3 h4 => ?_)
  have oh4 : Zai x3 := ov0.2 x3 h4.1
  refine tF (fun h5 => ?_) (fun h5 => ?_)
  ·refine tF (fun h6 => ?_) (fun h6 => ?_)
   ·exact tR trivial
   ·have q7 : -9223372036854775808 ≤ (v5 + 1) → (v5 + 1) < 9223372036854775808 → IntKind.wrap .i64 (v5 + 1) = (v5 + 1) := Zao _
    have q8 : -9223372036854775808 ≤ IntKind.wrap .i64 (v5 + 1) ∧ IntKind.wrap .i64 (v5 + 1) < 9223372036854775808 := Zap _
    exact tL ⟨ov0, ov1, cl⟩ (by unfold Zl2 lt6; dsimp only; omega)
  ·have q9 : -9223372036854775808 ≤ (v5 + 1) → (v5 + 1) < 9223372036854775808 → IntKind.wrap .i64 (v5 + 1) = (v5 + 1) := Zao _
   have q10 : -9223372036854775808 ≤ IntKind.wrap .i64 (v5 + 1) ∧ IntKind.wrap .i64 (v5 + 1) < 9223372036854775808 := Zap _
   exact tL ⟨ov0, ov1, cl⟩ (by unfold Zl2 lt6; dsimp only; omega)
 ·exact tR trivial
theorem Zahf (a0 : (List Zt)) (a1 : (List UInt8)) (oa0 : (SzL 176 Zai) a0) (oa1 : SzT a1) : Tot (Z3y a0 a1) (fun r => True) := by
 unfold Z3y
 refine tX (Inv := Z2g) (μ := Zl2) (m := (1000000, 0, 0, 0, 0, 0)) ?_ ?_
 ·have lb_a0 : a0.length * 176 ≤ 140737488351232 := oa0.1
  have lb_a1 : a1.length ≤ 562949953421312 := oa1
  dsimp only [Z7i, LT.den]
  exact tL ⟨oa0, oa1, cl⟩ (by unfold Zl2 lt6; dsimp only; omega)
 ·intro s hs
  cases s with
  | L0 v0 v1 v5 => exact Z95 v0 v1 v5 hs
def Zqa : Zid → Prop
 | .L0 v0 E0 v5 => ((SzL 176 Zai) v0) ∧ (Zai E0) ∧ (0 ≤ v5)
 | .L1 v0 E0 v5 v6 => ((SzL 176 Zai) v0) ∧ (Zai E0) ∧ (0 ≤ v5) ∧ (0 ≤ v6) ∧ (v5 < (E0.Abilities.length : Int)) ∧ (v5 < (E0.Abilities.length : Int))
def Zgb : Zid → M6
 | .L0 v0 E0 v5 => (1, ((E0.Abilities.length : Int) - v5).toNat, 1000000, 0, 0, 0)
 | .L1 v0 E0 v5 v6 => (1, ((E0.Abilities.length : Int) - v5).toNat, 1, ((((E0.Abilities[v5.toNat]?).map fun x => x.Effects.length).getD 0 : Nat) - v6).toNat, 1000000, 0)
theorem Z5b (v0 : (List Zt)) (E0 : Zt) (v5 : Int) (h : ((SzL 176 Zai) v0) ∧ (Zai E0) ∧ (0 ≤ v5)) : Tot (Zqs v0 E0 v5).den (Nx Zqa Zgb (1, ((E0.Abilities.length : Int) - v5).toNat, 1000000, 0, 0, 0) (fun r => True)) := by
 obtain ⟨ov0, ob30000000, cv5⟩ := h
 have lb_v0 : v0.length * 176 ≤ 140737488351232 := ov0.1
 dsimp only [Zqs, LT.den]
 have q1 : E0.Abilities.length * 640 ≤ 140737488351232 := ob30000000.2.2.1
 refine tD (fun h2 => ?_) (fun h2 => ?_)
 ·exact tL ⟨ov0, ob30000000, cl, cl, cl, cl⟩ (by unfold Zgb lt6; dsimp only; omega)
 ·exact tR trivial
theorem Z5c (v0 : (List Zt)) (E0 : Zt) (v5 : Int) (v6 : Int) (h : ((SzL 176 Zai) v0) ∧ (Zai E0) ∧ (0 ≤ v5) ∧ (0 ≤ v6) ∧ (v5 < (E0.Abilities.length : Int)) ∧ (v5 < (E0.Abilities.length : Int))) : Tot (Zqt v0 E0 v5 v6).den (Nx Zqa Zgb (1, ((E0.Abilities.length : Int) - v5).toNat, 1, ((((E0.Abilities[v5.toNat]?).map fun x => x.Effects.length).getD 0 : Nat) - v6).toNat, 1000000, 0) (fun r => True)) := by
 obtain ⟨ov0, ob30000000, cv5, cv6, bd4, i0⟩ := h
 have lb_v0 : v0.length * 176 ≤ 140737488351232 := ov0.1
 dsimp only [Zqt, LT.den]
 have lx_0 : E0.Abilities.length * 640 ≤ 140737488351232 := ob30000000.2.2.1
 refine tB (tI (by omega) (by omega)) (fun x1 h2 => ?_)
 have oh2 : Za1 x1 := ob30000000.2.2.2 x1 h2.1
 have mh2 : ((E0.Abilities[v5.toNat]?).map fun x => x.Effects.length).getD 0 = x1.Effects.length := by rw [h2.2]; rfl
 have q3 : x1.Effects.length * 560 ≤ 140737488351232 := oh2.2.2.2.2.1.1
 refine tD (fun h4 => ?_) (fun h4 => ?_)
 ·refine tB (tI (by omega) (by omega)) (fun x5 h6 => ?_)
  have oh6 : Zaa x5 := oh2.2.2.2.2.1.2 x5 h6.1
  refine tE (fun h7 => ?_) (fun h7 => ?_)
  ·refine tB (Zahf v0 x5.Card ov0 (SzS.t oh6.2.2.1)) (fun x8 h9 => ?_)
   refine tO (fun h10 => ?_) (fun h10 => ?_)
   ·exact tR trivial
   ·have q11 : -9223372036854775808 ≤ (v6 + 1) → (v6 + 1) < 9223372036854775808 → IntKind.wrap .i64 (v6 + 1) = (v6 + 1) := Zao _
    have q12 : -9223372036854775808 ≤ IntKind.wrap .i64 (v6 + 1) ∧ IntKind.wrap .i64 (v6 + 1) < 9223372036854775808 := Zap _
    exact tL ⟨ov0, ob30000000, cl, cl, cl, cl⟩ (by unfold Zgb lt6; dsimp only; omega)
  ·have q13 : -9223372036854775808 ≤ (v6 + 1) → (v6 + 1) < 9223372036854775808 → IntKind.wrap .i64 (v6 + 1) = (v6 + 1) := Zao _
   have q14 : -9223372036854775808 ≤ IntKind.wrap .i64 (v6 + 1) ∧ IntKind.wrap .i64 (v6 + 1) < 9223372036854775808 := Zap _
   exact tL ⟨ov0, ob30000000, cl, cl, cl, cl⟩ (by unfold Zgb lt6; dsimp only; omega)
 ·have q15 : -9223372036854775808 ≤ (v5 + 1) → (v5 + 1) < 9223372036854775808 → IntKind.wrap .i64 (v5 + 1) = (v5 + 1) := Zao _
  have q16 : -9223372036854775808 ≤ IntKind.wrap .i64 (v5 + 1) ∧ IntKind.wrap .i64 (v5 + 1) < 9223372036854775808 := Zap _
  exact tL ⟨ov0, ob30000000, cl⟩ (by unfold Zgb lt6; dsimp only; omega)
theorem Zad2 (a0 : (List Zt)) (a1 : Zt) (oa0 : (SzL 176 Zai) a0) (oa1 : Zai a1) : Tot (Zyp a0 a1) (fun r => True) := by
 unfold Zyp
 refine tX (Inv := Zqa) (μ := Zgb) (m := (1000000, 0, 0, 0, 0, 0)) ?_ ?_
 ·have lb_a0 : a0.length * 176 ≤ 140737488351232 := oa0.1
  dsimp only [Z1s, LT.den]
  exact tL ⟨oa0, oa1, cl⟩ (by unfold Zgb lt6; dsimp only; omega)
 ·intro s hs
  cases s with
  | L0 v0 E0 v5 => exact Z5b v0 E0 v5 hs
  | L1 v0 E0 v5 v6 => exact Z5c v0 E0 v5 v6 hs
def Z2h : Znc → Prop
 | .L0 v0 v4 => ((SzL 176 Zai) v0) ∧ (0 ≤ v4)
def Zqb : Znc → M6
 | .L0 v0 v4 => (1, ((v0.length : Int) - v4).toNat, 1000000, 0, 0, 0)
theorem Z96 (v0 : (List Zt)) (v4 : Int) (h : ((SzL 176 Zai) v0) ∧ (0 ≤ v4)) : Tot (Zvn v0 v4).den (Nx Z2h Zqb (1, ((v0.length : Int) - v4).toNat, 1000000, 0, 0, 0) (fun r => True)) := by
 obtain ⟨ov0, cv4⟩ := h
 have lb_v0 : v0.length * 176 ≤ 140737488351232 := ov0.1
 dsimp only [Zvn, LT.den]
 have q1 : v0.length * 176 ≤ 140737488351232 := ov0.1
 refine tD (fun h2 => ?_) (fun h2 => ?_)
 ·refine tB (tI (by omega) (by omega)) (fun x3 h4 => ?_)
  have oh4 : Zai x3 := ov0.2 x3 h4.1
  refine tB (Zao4 x3 oh4) (fun x5 h6 => ?_)
  refine tO (fun h7 => ?_) (fun h7 => ?_)
  ·exact tR trivial
  ·refine tB (Zalq v0 x3.Name ov0 (SzS.t oh4.1)) (fun x8 h9 => ?_)
   refine tD (fun h10 => ?_) (fun h10 => ?_)
   ·exact tR trivial
   ·refine tB (Zad2 v0 x3 ov0 oh4) (fun x11 h12 => ?_)
    refine tO (fun h13 => ?_) (fun h13 => ?_)
    ·exact tR trivial
    ·have q14 : -9223372036854775808 ≤ (v4 + 1) → (v4 + 1) < 9223372036854775808 → IntKind.wrap .i64 (v4 + 1) = (v4 + 1) := Zao _
     have q15 : -9223372036854775808 ≤ IntKind.wrap .i64 (v4 + 1) ∧ IntKind.wrap .i64 (v4 + 1) < 9223372036854775808 := Zap _
     exact tL ⟨ov0, cl⟩ (by unfold Zqb lt6; dsimp only; omega)
 ·exact tR trivial
theorem Zahg (a0 : (List Zt)) (oa0 : (SzL 176 Zai) a0) : Tot (Z3z a0) (fun r => True) := by
 unfold Z3z
 refine tX (Inv := Z2h) (μ := Zqb) (m := (1000000, 0, 0, 0, 0, 0)) ?_ ?_
 ·have lb_a0 : a0.length * 176 ≤ 140737488351232 := oa0.1
  dsimp only [Z7k, LT.den]
  have q1 : a0.length * 176 ≤ 140737488351232 := oa0.1
  refine tD (fun h2 => ?_) (fun h2 => ?_)
  ·exact tR trivial
  ·exact tL ⟨oa0, cl⟩ (by unfold Zqb lt6; dsimp only; omega)
 ·intro s hs
  cases s with
  | L0 v0 v4 => exact Z96 v0 v4 hs
theorem Zex (a0 : Int) (a1 : Int) (a2 : Int) : Tot (Zaki a0 a1 a2) (fun r => True) := by
 unfold Zaki
 refine tZ ?_
 dsimp only [Zakg, LT.den]
 refine tD (fun h1 => ?_) (fun h1 => ?_)
 ·exact tR trivial
 ·exact tR trivial
def Z2i : Znd → Prop
 | .L0 E0 v3 => (0 ≤ v3) ∧ True
def Zqc : Znd → M6
 | .L0 E0 v3 => (1, (6 - v3).toNat, 1000000, 0, 0, 0)
theorem Z97 (E0 : (A6 Int)) (v3 : Int) (h : (0 ≤ v3) ∧ True) : Tot (Zvo E0 v3).den (Nx Z2i Zqc (1, (6 - v3).toNat, 1000000, 0, 0, 0) (fun r => True)) := by
 obtain ⟨cv3, _⟩ := h
 dsimp only [Zvo, LT.den]
 refine tD (fun h1 => ?_) (fun h1 => ?_)
 ·refine tB (tI (by omega) (by have e : (A6.list E0).length = 6 := rfl; omega)) (fun x2 h3 => ?_)
  refine tD (fun h4 => ?_) (fun h4 => ?_)
  ·exact tR trivial
  ·refine tB (tI (by omega) (by have e : (A6.list E0).length = 6 := rfl; omega)) (fun x5 h6 => ?_)
   refine tD (fun h7 => ?_) (fun h7 => ?_)
   ·exact tR trivial
   ·have q8 : -9223372036854775808 ≤ (v3 + 1) → (v3 + 1) < 9223372036854775808 → IntKind.wrap .i64 (v3 + 1) = (v3 + 1) := Zao _
    have q9 : -9223372036854775808 ≤ IntKind.wrap .i64 (v3 + 1) ∧ IntKind.wrap .i64 (v3 + 1) < 9223372036854775808 := Zap _
    exact tL ⟨cl, trivial⟩ (by unfold Zqc lt6; dsimp only; omega)
 ·exact tR trivial
theorem Zahh (a0 : (A6 Int)) : Tot (Z30 a0) (fun r => True) := by
 unfold Z30
 refine tX (Inv := Z2i) (μ := Zqc) (m := (1000000, 0, 0, 0, 0, 0)) ?_ ?_
 ·dsimp only [Z7m, LT.den]
  exact tL ⟨cl, trivial⟩ (by unfold Zqc lt6; dsimp only; omega)
 ·intro s hs
  cases s with
  | L0 E0 v3 => exact Z97 E0 v3 hs
def Z2j (a0 : Za) (a1 : Int) : Zne → Prop
 | .L0 v1 E0 v5 => (E0 = a0) ∧ (Zz E0) ∧ (0 ≤ v5)
def Zqd : Zne → M6
 | .L0 v1 E0 v5 => (1, ((E0.Objects.length : Int) - v5).toNat, 1000000, 0, 0, 0)
theorem Z98 (a0 : Za) (a1 : Int) (v1 : Int) (E0 : Za) (v5 : Int) (h : (E0 = a0) ∧ (Zz E0) ∧ (0 ≤ v5)) : Tot (Zvp v1 E0 v5).den (Nx (Z2j a0 a1) Zqd (1, ((E0.Objects.length : Int) - v5).toNat, 1000000, 0, 0, 0) (fun r => (r < (a0.Objects.length : Int)))) := by
 obtain ⟨al0, ob30000000, cv5⟩ := h
 subst al0
 dsimp only [Zvp, LT.den]
 have q1 : E0.Objects.length * 128 ≤ 140737488351232 := ob30000000.2.1.1
 refine tD (fun h2 => ?_) (fun h2 => ?_)
 ·refine tB (tI (by omega) (by omega)) (fun x3 h4 => ?_)
  refine tE (fun h5 => ?_) (fun h5 => ?_)
  ·exact tR cl
  ·have q6 : -9223372036854775808 ≤ (v5 + 1) → (v5 + 1) < 9223372036854775808 → IntKind.wrap .i64 (v5 + 1) = (v5 + 1) := Zao _
   have q7 : -9223372036854775808 ≤ IntKind.wrap .i64 (v5 + 1) ∧ IntKind.wrap .i64 (v5 + 1) < 9223372036854775808 := Zap _
   exact tL ⟨rfl, ob30000000, cl⟩ (by unfold Zqd lt6; dsimp only; omega)
 ·exact tR cl
theorem Zahi (a0 : Za) (a1 : Int) (oa0 : Zz a0) : Tot (Z31 a0 a1) (fun r => (r < (a0.Objects.length : Int))) := by
 unfold Z31
 refine tX (Inv := (Z2j a0 a1)) (μ := Zqd) (m := (1000000, 0, 0, 0, 0, 0)) ?_ ?_
 ·dsimp only [Z7o, LT.den]
  exact tL ⟨rfl, oa0, cl⟩ (by unfold Zqd lt6; dsimp only; omega)
 ·intro s hs
  cases s with
  | L0 v1 E0 v5 => exact Z98 a0 a1 v1 E0 v5 hs
theorem Zalr (a0 : Za) (a1 : Int) (oa0 : Zz a0) : Tot (Z9i a0 a1) (fun r => True) := by
 unfold Z9i
 refine tZ ?_
 dsimp only [Zaci, LT.den]
 refine tB (Zahi a0 a1 oa0) (fun x1 h2 => ?_)
 replace h2 : (x1 < (a0.Objects.length : Int)) := h2
 have eh2_0 := h2
 try simp only [List.length_nil, List.length_cons, Nat.zero_add] at eh2_0
 refine tD (fun h3 => ?_) (fun h3 => ?_)
 ·exact tR trivial
 ·refine tB (tI (by omega) (by omega)) (fun x4 h5 => ?_)
  exact tR trivial
theorem Z0b (a0 : Za) (a1 : Int) (oa0 : Zz a0) : Tot (Z0w a0 a1) (fun r => True) := by
 unfold Z0w
 refine tZ ?_
 dsimp only [Z32, LT.den]
 refine tB (Zalr a0 a1 oa0) (fun x1 h2 => ?_)
 exact tR trivial
def Z2k : Znf → Prop
 | .L0 v0 v1 v5 v6 => ((SzL 8 (fun _ => True)) v0) ∧ (0 ≤ v6)
def Zl3 : Znf → M6
 | .L0 v0 v1 v5 v6 => (1, ((v0.length : Int) - v6).toNat, 1000000, 0, 0, 0)
theorem Z99 (v0 : (List Int)) (v1 : Int) (v5 : Int) (v6 : Int) (h : ((SzL 8 (fun _ => True)) v0) ∧ (0 ≤ v6)) : Tot (Zvq v0 v1 v5 v6).den (Nx Z2k Zl3 (1, ((v0.length : Int) - v6).toNat, 1000000, 0, 0, 0) (fun r => True)) := by
 obtain ⟨ov0, cv6⟩ := h
 have lb_v0 : v0.length * 8 ≤ 140737488351232 := ov0.1
 dsimp only [Zvq, LT.den]
 have q1 : v0.length * 8 ≤ 140737488351232 := ov0.1
 refine tD (fun h2 => ?_) (fun h2 => ?_)
 ·refine tB (tI (by omega) (by omega)) (fun x3 h4 => ?_)
  refine tE (fun h5 => ?_) (fun h5 => ?_)
  ·have q6 : -9223372036854775808 ≤ (v5 + 1) → (v5 + 1) < 9223372036854775808 → IntKind.wrap .i64 (v5 + 1) = (v5 + 1) := Zao _
   have q7 : -9223372036854775808 ≤ IntKind.wrap .i64 (v5 + 1) ∧ IntKind.wrap .i64 (v5 + 1) < 9223372036854775808 := Zap _
   have q8 : -9223372036854775808 ≤ (v6 + 1) → (v6 + 1) < 9223372036854775808 → IntKind.wrap .i64 (v6 + 1) = (v6 + 1) := Zao _
   have q9 : -9223372036854775808 ≤ IntKind.wrap .i64 (v6 + 1) ∧ IntKind.wrap .i64 (v6 + 1) < 9223372036854775808 := Zap _
   exact tL ⟨ov0, cl⟩ (by unfold Zl3 lt6; dsimp only; omega)
  ·have q10 : -9223372036854775808 ≤ (v6 + 1) → (v6 + 1) < 9223372036854775808 → IntKind.wrap .i64 (v6 + 1) = (v6 + 1) := Zao _
   have q11 : -9223372036854775808 ≤ IntKind.wrap .i64 (v6 + 1) ∧ IntKind.wrap .i64 (v6 + 1) < 9223372036854775808 := Zap _
   exact tL ⟨ov0, cl⟩ (by unfold Zl3 lt6; dsimp only; omega)
 ·exact tR trivial
theorem Ztx (a0 : (List Int)) (a1 : Int) (oa0 : (SzL 8 (fun _ => True)) a0) : Tot (Z34 a0 a1) (fun r => True) := by
 unfold Z34
 refine tX (Inv := Z2k) (μ := Zl3) (m := (1000000, 0, 0, 0, 0, 0)) ?_ ?_
 ·have lb_a0 : a0.length * 8 ≤ 140737488351232 := oa0.1
  dsimp only [Z7q, LT.den]
  exact tL ⟨oa0, cl⟩ (by unfold Zl3 lt6; dsimp only; omega)
 ·intro s hs
  cases s with
  | L0 v0 v1 v5 v6 => exact Z99 v0 v1 v5 v6 hs
def Z5d : Zpo → Prop
 | .L0 v1 v2 v3 E0 v9 => ((SzL 8 (fun _ => True)) v1) ∧ (Zz E0) ∧ (0 ≤ v9)
def Zns : Zpo → M6
 | .L0 v1 v2 v3 E0 v9 => (1, ((v1.length : Int) - v9).toNat, 1000000, 0, 0, 0)
theorem Zad3 (v1 : (List Int)) (v2 : Int) (v3 : Int) (E0 : Za) (v9 : Int) (h : ((SzL 8 (fun _ => True)) v1) ∧ (Zz E0) ∧ (0 ≤ v9)) : Tot (Zyq v1 v2 v3 E0 v9).den (Nx Z5d Zns (1, ((v1.length : Int) - v9).toNat, 1000000, 0, 0, 0) (fun r => True)) := by
 obtain ⟨ov1, ob30000000, cv9⟩ := h
 have lb_v1 : v1.length * 8 ≤ 140737488351232 := ov1.1
 dsimp only [Zyq, LT.den]
 have q1 : v1.length * 8 ≤ 140737488351232 := ov1.1
 refine tD (fun h2 => ?_) (fun h2 => ?_)
 ·refine tB (tI (by omega) (by omega)) (fun x3 h4 => ?_)
  refine tB (Z0b E0 x3 ob30000000) (fun x5 h6 => ?_)
  refine tO (fun h7 => ?_) (fun h7 => ?_)
  ·exact tR trivial
  ·refine tN (fun h8 => ?_) (fun h8 => ?_)
   ·exact tR trivial
   ·refine tD (fun h9 => ?_) (fun h9 => ?_)
    ·refine tN (fun h10 => ?_) (fun h10 => ?_)
     ·exact tR trivial
     ·refine tB (Ztx v1 x3 ov1) (fun x11 h12 => ?_)
      refine tN (fun h13 => ?_) (fun h13 => ?_)
      ·exact tR trivial
      ·have q14 : -9223372036854775808 ≤ (v9 + 1) → (v9 + 1) < 9223372036854775808 → IntKind.wrap .i64 (v9 + 1) = (v9 + 1) := Zao _
       have q15 : -9223372036854775808 ≤ IntKind.wrap .i64 (v9 + 1) ∧ IntKind.wrap .i64 (v9 + 1) < 9223372036854775808 := Zap _
       exact tL ⟨ov1, ob30000000, cl⟩ (by unfold Zns lt6; dsimp only; omega)
    ·refine tB (Ztx v1 x3 ov1) (fun x16 h17 => ?_)
     refine tN (fun h18 => ?_) (fun h18 => ?_)
     ·exact tR trivial
     ·have q19 : -9223372036854775808 ≤ (v9 + 1) → (v9 + 1) < 9223372036854775808 → IntKind.wrap .i64 (v9 + 1) = (v9 + 1) := Zao _
      have q20 : -9223372036854775808 ≤ IntKind.wrap .i64 (v9 + 1) ∧ IntKind.wrap .i64 (v9 + 1) < 9223372036854775808 := Zap _
      exact tL ⟨ov1, ob30000000, cl⟩ (by unfold Zns lt6; dsimp only; omega)
 ·exact tR trivial
theorem Zl4 (a0 : Za) (a1 : (List Int)) (a2 : Int) (a3 : Int) (oa0 : Zz a0) (oa1 : (SzL 8 (fun _ => True)) a1) : Tot (Z9j a0 a1 a2 a3) (fun r => True) := by
 unfold Z9j
 refine tX (Inv := Z5d) (μ := Zns) (m := (1000000, 0, 0, 0, 0, 0)) ?_ ?_
 ·have lb_a1 : a1.length * 8 ≤ 140737488351232 := oa1.1
  dsimp only [Zack, LT.den]
  exact tL ⟨oa1, oa0, cl⟩ (by unfold Zns lt6; dsimp only; omega)
 ·intro s hs
  cases s with
  | L0 v1 v2 v3 E0 v9 => exact Zad3 v1 v2 v3 E0 v9 hs
end Go.PW
