import Derived.Test.YtloamjgjcjandaaGreatQE
import Derived.Test.YtloamjgjcjandaaGreatPwX
set_option linter.all false
set_option maxRecDepth 100000
namespace Go.PW
abbrev Z7a (x : Zkt) : Prop := (SzL 16 SzT) x.Subs
theorem Za6q {x : Zkt} (h : Zag8 x) : Z7a x := (Zhw h.2.2 (fun _ h => Zbqp h))
abbrev Zcv (x : Zi) : Prop := SzS x.Sub
theorem Zjc {x : Zi} (h : Zje x) : Zcv x := (Zaz3 h.2.2.2.2.2.2.2.1)
abbrev Zau (x : Zh) : Prop := SzS x.Sub ∧ Zcv x.Filter
theorem Z84 {x : Zh} (h : Z28 x) : Zau x := ⟨(Zaz3 h.2.2.2.1), (Zjc h.2.2.2.2)⟩
abbrev Zyo (x : Zdk) : Prop := Zcv x.Filter
theorem Zat7 {x : Zdk} (h : Z5p x) : Zyo x := (Zjc h.2.2)
abbrev Zpb (x : Zaj) : Prop := Zcv x.Filter
theorem Za6r {x : Zaj} (h : Zag9 x) : Zpb x := (Zjc h.2.2)
abbrev Z4c (x : Zgp) : Prop := Zcv x.Filter
theorem Zba8 {x : Zgp} (h : Zak7 x) : Z4c x := (Zjc h.2.2)
abbrev Z85 (x : Zd3) : Prop := Zcv x.Filter
theorem Zaya {x : Zd3} (h : Z8e x) : Z85 x := (Zjc h.2.2.2)
abbrev Za7 (x : Zk) : Prop := Z4c x.Ref ∧ Z85 x.Amount ∧ SzS x.Card ∧ Zcv x.Filter ∧ (SzL 176 Zau) x.Mods
theorem Zayb {x : Zk} (h : Z8f x) : Za7 x := ⟨(Zba8 h.2.1), (Zaya h.2.2.1), (Zaz3 h.2.2.2.2.2.1), (Zjc h.2.2.2.2.2.2.1), (Zhw h.2.2.2.2.2.2.2.2 (fun _ h => (Z84 h)))⟩
abbrev Zhb (x : Za2) : Prop := Zcv x.Filter
theorem Zat8 {x : Za2} (h : Z5q x) : Zhb x := (Zjc h.2.2.1)
abbrev Zdd (x : Zs) : Prop := Zcv x.Filter ∧ (SzL 176 Zau) x.Mods ∧ Zyo x.Trigger ∧ (SzL 144 Zpb) x.Specs ∧ (SzL 560 Za7) x.Effects ∧ Zhb x.Replace
theorem Zy5 {x : Zs} (h : Zr4 x) : Zdd x := ⟨(Zjc h.2.1), (Zhw h.2.2.1 (fun _ h => (Z84 h))), (Zat7 h.2.2.2.2.2.1), (Zhw h.2.2.2.2.2.2.2.1 (fun _ h => (Za6r h))), (Zhw h.2.2.2.2.2.2.2.2.1 (fun _ h => (Zayb h))), (Zat8 h.2.2.2.2.2.2.2.2.2)⟩
abbrev Zb9 (x : Zw) : Prop := SzS x.Name ∧ Z7a x.Line ∧ (SzL 640 Zdd) x.Abilities
theorem Za6s {x : Zw} (h : Zaha x) : Zb9 x := ⟨(Zaz3 h.1), (Za6q h.2.2.2.2.1), (Zhw h.2.2.2.2.2.2.2.2 (fun _ h => (Zy5 h)))⟩
abbrev Zmk (x : Zaa) : Prop := (SzL 8 (fun _ => True)) x.Library ∧ (SzL 8 (fun _ => True)) x.Hand ∧ (SzL 8 (fun _ => True)) x.Graveyard
theorem Zayc {x : Zaa} (h : Z8g x) : Zmk x := ⟨(Zhw h.2.2.2.2.2.2.1 (fun _ _ => trivial)), (Zhw h.2.2.2.2.2.2.2.1 (fun _ _ => trivial)), (Zhw h.2.2.2.2.2.2.2.2 (fun _ _ => trivial))⟩
abbrev Zlf (x : Zao) : Prop := Zdd x.Ability ∧ (SzL 16 (fun _ => True)) x.Targets
theorem Za6t {x : Zao} (h : Zahb x) : Zlf x := ⟨(Zy5 h.2.2.2.2.2.2.1), (Zhw h.2.2.2.2.2.2.2.1 (fun _ _ => trivial))⟩
abbrev Zpf (x : Z7) : Prop := Zdd x.Ability
theorem Zat9 {x : Z7} (h : Z5r x) : Zpf x := (Zy5 h.2.2.1)
abbrev Zu8 (x : Zar) : Prop := (SzL 8 (fun _ => True)) x.Objects ∧ (SzL 176 Zau) x.Mods
theorem Za6u {x : Zar} (h : Zahc x) : Zu8 x := ⟨(Zhw h.2.2.2.2.1 (fun _ _ => trivial)), (Zhw h.2.2.2.2.2 (fun _ h => (Z84 h)))⟩
abbrev Zap (x : Zd) : Prop := (SzL 152 Zmk) x.Players ∧ (SzL 128 (fun _ => True)) x.Objects ∧ (SzL 8 (fun _ => True)) x.Battlefield ∧ (SzL 8 (fun _ => True)) x.Exile ∧ (SzL 824 Zlf) x.Stack ∧ (SzL 768 Zpf) x.Waiting ∧ (SzL 80 Zu8) x.Conts ∧ (SzL 8 (fun _ => True)) x.Extra
theorem Zaga {x : Zd} (h : Z29 x) : Zap x := ⟨(Zhw h.1 (fun _ h => (Zayc h))), (Zhw h.2.1 (fun _ _ => trivial)), (Zhw h.2.2.1 (fun _ _ => trivial)), (Zhw h.2.2.2.1 (fun _ _ => trivial)), (Zhw h.2.2.2.2.1 (fun _ h => (Za6t h))), (Zhw h.2.2.2.2.2.1 (fun _ h => (Zat9 h))), (Zhw h.2.2.2.2.2.2.1 (fun _ h => (Za6u h))), (Zhw h.2.2.2.2.2.2.2.2.2.2.2.2.2.2.2.2.1 (fun _ _ => trivial))⟩
abbrev Zuw (x : Zdf) : Prop := (SzL 24 (fun _ => True)) x.Options
theorem Zayd {x : Zdf} (h : Z8h x) : Zuw x := (Zhw h.2.2.2.2.2.2 (fun _ _ => trivial))
abbrev Znk (x : Zab) : Prop := (SzL 176 Zb9) x.Cards ∧ Zap x.State ∧ (SzL 24 (SzL 8 (fun _ => True))) x.Answers ∧ Zuw x.Pending ∧ (SzL 280 Zap) x.Seen
theorem Za6v {x : Zab} (h : Zauv x) : Znk x := ⟨(Zhw h.1 (fun _ h => (Za6s h))), (Zaga h.2.1), (Zhw h.2.2.1 (fun _ h => (Zhw h (fun _ _ => trivial)))), (Zayd h.2.2.2.1), (Zhw h.2.2.2.2.2 (fun _ h => (Zaga h)))⟩
abbrev Zaid (x : Zcy) : Prop := (SzL 8 (fun _ => True)) x.Graveyard
abbrev Zav4 (x : Zas) : Prop := (SzL 120 Zaid) x.Players ∧ (SzL 8 (fun _ => True)) x.Hand ∧ (SzL 128 (fun _ => True)) x.Objects ∧ (SzL 8 (fun _ => True)) x.Battlefield ∧ (SzL 8 (fun _ => True)) x.Exile ∧ (SzL 824 Zlf) x.Stack ∧ (SzL 768 Zpf) x.Waiting ∧ (SzL 80 Zu8) x.Conts ∧ (SzL 8 (fun _ => True)) x.Extra ∧ Zuw x.Pending
abbrev Zbj2 : Zqb → Prop := fun _ => True
abbrev Zbl7 : Zqb → M6 := fun _ => (0, 0, 0, 0, 0, 0)
theorem Zav5 (a0 : Int) : Tot (Zaim a0) (fun r => True) := by
 unfold Zaim
 refine Tot.fin (Inv := Zbj2) (μ := Zbl7) (m := (1000000, 0, 0, 0, 0, 0)) ?_ ?_
 ·unfold Zao0
  refine Tot.dif (fun h1 => ?_) (fun h1 => ?_)
  ·exact Tot.inr trivial
  ·exact Tot.inr trivial
 ·intro s
  cases s
abbrev Z4d : Zms → Prop
 | .L0 v0 v3 => (SzT v0) ∧ (0 ≤ v3)
 | .L1 v0 v3 => (SzT v0) ∧ (0 ≤ v3) ∧ (v3 < (v0.length : Int)) ∧ (0 ≤ v3) ∧ (v3 < v0.length)
abbrev Zqm : Zms → M6
 | .L0 v0 v3 => (1, ((v0.length : Int) - v3).toNat, 1000000, 0, 0, 0)
 | .L1 v0 v3 => (1, ((v0.length : Int) - v3).toNat, 0, 0, 0, 0)
theorem Zux (v0 : (List UInt8)) (v3 : Int) (h : Z4d (.L1 v0 v3)) : Tot (Zs0 v0 v3) (Nx Z4d Zqm (Zqm (.L1 v0 v3)) (fun r => True)) := by
 obtain ⟨ov0, cv3, bd2, i0, i1⟩ := h
 have lb_v0 : v0.length ≤ 562949953421312 := ov0
 unfold Zs0
 refine Tot.dif (fun h1 => ?_) (fun h1 => ?_)
 ·refine Tot.bind (Tot.idx (by omega) (by omega)) (fun x2 h3 => ?_)
  refine Tot.ieq (fun h4 => ?_) (fun h4 => ?_)
  ·have q5 := Za3 (v3 - 1)
   have q6 := Za4 (v3 - 1)
   refine Tot.bind (Tot.idx (by omega) (by omega)) (fun x7 h8 => ?_)
   refine Tot.ieq (fun h9 => ?_) (fun h9 => ?_)
   ·exact Tot.inr trivial
   ·have q10 := Za3 (v3 + 1)
    have q11 := Za4 (v3 + 1)
    exact Tot.inl ⟨ov0, (by omega)⟩ (by unfold Zqm lt6; dsimp only; omega)
  ·have q12 := Za3 (v3 + 1)
   have q13 := Za4 (v3 + 1)
   exact Tot.inl ⟨ov0, (by omega)⟩ (by unfold Zqm lt6; dsimp only; omega)
 ·have q14 := Za3 (v3 + 1)
  have q15 := Za4 (v3 + 1)
  exact Tot.inl ⟨ov0, (by omega)⟩ (by unfold Zqm lt6; dsimp only; omega)
theorem Zba9 (v0 : (List UInt8)) (v3 : Int) (h : Z4d (.L0 v0 v3)) : Tot (Zaex v0 v3) (Nx Z4d Zqm (Zqm (.L0 v0 v3)) (fun r => True)) := by
 obtain ⟨ov0, cv3⟩ := h
 have lb_v0 : v0.length ≤ 562949953421312 := ov0
 unfold Zaex
 have q1 : v0.length ≤ 562949953421312 := ov0
 refine Tot.dif (fun h2 => ?_) (fun h2 => ?_)
 ·refine Tot.bind (Tot.idx (by omega) (by omega)) (fun x3 h4 => ?_)
  refine Tot.bind (Zav5 (UInt8.toNat x3 : Int)) (fun x5 h6 => ?_)
  refine Tot.not (fun h7 => ?_) (fun h7 => ?_)
  ·refine Tot.bind (Tot.idx (by omega) (by omega)) (fun x8 h9 => ?_)
   refine Tot.dif (fun h10 => ?_) (fun h10 => ?_)
   ·refine Tot.bind (Tot.idx (by omega) (by omega)) (fun x11 h12 => ?_)
    refine Tot.ine (fun h13 => ?_) (fun h13 => ?_)
    ·exact Tot.inr trivial
    ·exact Tot.join (Zux v0 v3 ⟨ov0, (by omega), (by omega), (by omega), (by omega)⟩) (by unfold le6 lt6; dsimp only; omega)
   ·refine Tot.bind (Tot.idx (by omega) (by omega)) (fun x14 h15 => ?_)
    refine Tot.dif (fun h16 => ?_) (fun h16 => ?_)
    ·refine Tot.bind (Tot.idx (by omega) (by omega)) (fun x17 h18 => ?_)
     refine Tot.ine (fun h19 => ?_) (fun h19 => ?_)
     ·exact Tot.inr trivial
     ·exact Tot.join (Zux v0 v3 ⟨ov0, (by omega), (by omega), (by omega), (by omega)⟩) (by unfold le6 lt6; dsimp only; omega)
    ·exact Tot.join (Zux v0 v3 ⟨ov0, (by omega), (by omega), (by omega), (by omega)⟩) (by unfold le6 lt6; dsimp only; omega)
  ·exact Tot.join (Zux v0 v3 ⟨ov0, (by omega), (by omega), (by omega), (by omega)⟩) (by unfold le6 lt6; dsimp only; omega)
 ·exact Tot.inr trivial
theorem Zame (a0 : (List UInt8)) (oa0 : SzT a0) : Tot (Zain a0) (fun r => True) := by
 unfold Zain
 refine Tot.fin (Inv := Z4d) (μ := Zqm) (m := (1000000, 0, 0, 0, 0, 0)) ?_ ?_
 ·have lb_a0 : a0.length ≤ 562949953421312 := oa0
  unfold Zawf
  have q1 : a0.length ≤ 562949953421312 := oa0
  refine Tot.dif (fun h2 => ?_) (fun h2 => ?_)
  ·exact Tot.inr trivial
  ·refine Tot.dif (fun h3 => ?_) (fun h3 => ?_)
   ·exact Tot.inr trivial
   ·refine Tot.bind (Tot.idx (by omega) (by omega)) (fun x4 h5 => ?_)
    refine Tot.bind (Zav5 (UInt8.toNat x4 : Int)) (fun x6 h7 => ?_)
    refine Tot.not (fun h8 => ?_) (fun h8 => ?_)
    ·exact Tot.inr trivial
    ·have q9 := Za3 ((a0.length : Int) - 1)
     have q10 := Za4 ((a0.length : Int) - 1)
     refine Tot.bind (Tot.idx (by omega) (by omega)) (fun x11 h12 => ?_)
     refine Tot.ieq (fun h13 => ?_) (fun h13 => ?_)
     ·exact Tot.inr trivial
     ·exact Tot.inl ⟨oa0, (by omega)⟩ (by unfold Zqm lt6; dsimp only; omega)
 ·intro s hs
  cases s with
  | L0 v0 v3 => exact Zba9 v0 v3 hs
  | L1 v0 v3 => exact Zux v0 v3 hs
def btw8 (n m : Int) : Bool := decide (n ≥ 0) && decide (n ≤ m)
def Za23 (c : Zai) : Bool := btw8 c.Generic 99 && (btw8 c.X 2 && c.Color.list.all fun n => btw8 n 9)
theorem Zbl8 (c : Zai) : Zabg c = some (Za23 c) := by
 unfold Zabg Zawg
 have hl : runO Zzc (.L0 c 0) = some (c.Color.list.all fun n => btw8 n 9) := by
  have := Zbdg (st := fun i => Zn8.L0 c (i : Int)) (step := Zzc) (bad := false) c.Color.list (fun n => btw8 n 9) (fun i x hx => by
   have hi := (List.getElem?_eq_some_iff.1 hx).1
   have hi : i < 5 := hi
   show Z7m _ _ = _
   unfold Z7m
   rw [decide_eq_true (by omega), Zb8 hx, Zaoy (by omega) (by omega)]
   simp only [cond_true, Option.bind_some]
   unfold btw8
   by_cases h1 : x < 0
   ·rw [decide_eq_true h1, decide_eq_false (show ¬ x ≥ 0 by omega)]; rfl
   ·rw [decide_eq_false h1, decide_eq_true (show x ≥ 0 by omega)]
    by_cases h2 : x > 9
    ·rw [decide_eq_true h2, decide_eq_false (show ¬ x ≤ 9 by omega)]; rfl
    ·rw [decide_eq_false h2, decide_eq_true (show x ≤ 9 by omega)]; rfl)
  rw [show (Zn8.L0 c 0) = .L0 c ((0 : Nat) : Int) from rfl, this]
  have he : runO Zzc (.L0 c ((c.Color.list.length : Nat) : Int)) = some true := by
   refine Zct ?_
   show Z7m c 5 = _
   rfl
  rw [he]
  cases c.Color.list.all fun n => btw8 n 9 <;> rfl
 refine (Zaz2 fun _ => Zaz2 fun _ => Zaz2 fun _ => Zaz2 fun _ => (show Option.bind (some (Sum.inl (Zn8.L0 c 0))) (endO Zzc) = some (c.Color.list.all fun n => btw8 n 9) from hl)).trans ?_
 congr 1
 unfold Za23 btw8
 rw [Bool.eq_iff_iff]
 simp only [Bool.and_eq_true, Bool.not_eq_true', decide_eq_false_iff_not, decide_eq_true_eq, ge_iff_le, gt_iff_lt, Int.not_lt]
 constructor
 ·rintro ⟨h1, h2, h3, h4, h5⟩; exact ⟨⟨h1, h2⟩, ⟨h3, h4⟩, h5⟩
 ·rintro ⟨⟨h1, h2⟩, ⟨h3, h4⟩, h5⟩; exact ⟨h1, h2, h3, h4, h5⟩
theorem Zamf (a0 : Zai) : Tot (Zabg a0) (fun r => (r = true → a0.X ≤ 2) ∧ (r = true → ∀ n, n ∈ A5.list a0.Color → n ≤ 9)) := by
 refine ⟨_, Zbl8 a0, fun h => ?_, fun h n hn => ?_⟩
 ·simp only [Za23, btw8, Bool.and_eq_true, decide_eq_true_eq] at h
  exact h.2.1.2
 ·simp only [Za23, btw8, Bool.and_eq_true, decide_eq_true_eq, List.all_eq_true] at h
  exact (h.2.2 n hn).2
abbrev Zarz : Zhp → Prop := fun _ => True
abbrev Zaua : Zhp → M6 := fun _ => (0, 0, 0, 0, 0, 0)
theorem Zar0 : Tot (Zro) (fun r => ((SzL 16 SzN) r) ∧ (r.length = 2)) := by
 unfold Zro
 refine Tot.fin (Inv := Zarz) (μ := Zaua) (m := (1000000, 0, 0, 0, 0, 0)) ?_ ?_
 ·unfold Z0p
  have q1 : (SzL 16 SzN) [([98, 97, 115, 105, 99] : List UInt8), ([117, 110, 105, 113, 117, 101] : List UInt8)] := ⟨by simp only [List.length_cons, List.length_nil]; omega, (mem_cons' (by unfold SzN; first | omega | (simp only [List.length_append, List.length_cons, List.length_nil]; omega)) (mem_cons' (by unfold SzN; first | omega | (simp only [List.length_append, List.length_cons, List.length_nil]; omega)) (fun _ h => by cases h)))⟩
  have lq1 : [([98, 97, 115, 105, 99] : List UInt8), ([117, 110, 105, 113, 117, 101] : List UInt8)].length = 2 := rfl
  exact Tot.inr (show ((SzL 16 SzN) [([98, 97, 115, 105, 99] : List UInt8), ([117, 110, 105, 113, 117, 101] : List UInt8)]) ∧ ([([98, 97, 115, 105, 99] : List UInt8), ([117, 110, 105, 113, 117, 101] : List UInt8)].length = 2) from ⟨q1, (by omega)⟩)
 ·intro s
  cases s
abbrev Z86 : Zkb → Prop
 | .L0 v0 v1 v5 => ((SzL 16 SzT) v0) ∧ (SzT v1) ∧ (0 ≤ v5)
abbrev Zxj : Zkb → M6
 | .L0 v0 v1 v5 => (1, ((v0.length : Int) - v5).toNat, 1000000, 0, 0, 0)
theorem Zaye (v0 : (List (List UInt8))) (v1 : (List UInt8)) (v5 : Int) (h : Z86 (.L0 v0 v1 v5)) : Tot (Z2e v0 v1 v5) (Nx Z86 Zxj (Zxj (.L0 v0 v1 v5)) (fun r => True)) := by
 obtain ⟨ov0, ov1, cv5⟩ := h
 have lb_v0 := ov0.1
 have lb_v1 : v1.length ≤ 562949953421312 := ov1
 unfold Z2e
 have q1 := ov0.1
 refine Tot.dif (fun h2 => ?_) (fun h2 => ?_)
 ·refine Tot.bind (Tot.idx (by omega) (by omega)) (fun x3 h4 => ?_)
  have oh4 : SzT x3 := ov0.2 x3 h4.1
  refine Tot.bif (fun h5 => ?_) (fun h5 => ?_)
  ·exact Tot.inr trivial
  ·have q6 := Za3 (v5 + 1)
   have q7 := Za4 (v5 + 1)
   exact Tot.inl ⟨ov0, ov1, (by omega)⟩ (by unfold Zxj lt6; dsimp only; omega)
 ·exact Tot.inr trivial
theorem Zan3 (a0 : (List (List UInt8))) (a1 : (List UInt8)) (oa0 : (SzL 16 SzT) a0) (oa1 : SzT a1) : Tot (Z7n a0 a1) (fun r => True) := by
 unfold Z7n
 refine Tot.fin (Inv := Z86) (μ := Zxj) (m := (1000000, 0, 0, 0, 0, 0)) ?_ ?_
 ·have lb_a0 := oa0.1
  have lb_a1 : a1.length ≤ 562949953421312 := oa1
  unfold Zagh
  exact Tot.inl ⟨oa0, oa1, (by omega)⟩ (by unfold Zxj lt6; dsimp only; omega)
 ·intro s hs
  cases s with
  | L0 v0 v1 v5 => exact Zaye v0 v1 v5 hs
abbrev Zaub : Zin → Prop := fun _ => True
abbrev Zayf : Zin → M6 := fun _ => (0, 0, 0, 0, 0, 0)
theorem Z92 : Tot (Zp3) (fun r => ((SzL 16 SzN) r) ∧ (r.length = 6)) := by
 unfold Zp3
 refine Tot.fin (Inv := Zaub) (μ := Zayf) (m := (1000000, 0, 0, 0, 0, 0)) ?_ ?_
 ·unfold Z2f
  have q1 : (SzL 16 SzN) [([99, 114, 101, 97, 116, 117, 114, 101] : List UInt8), ([105, 110, 115, 116, 97, 110, 116] : List UInt8), ([114, 105, 116, 117, 97, 108] : List UInt8), ([114, 101, 108, 105, 99] : List UInt8), ([99, 104, 97, 114, 109] : List UInt8), ([108, 97, 110, 100] : List UInt8)] := ⟨by simp only [List.length_cons, List.length_nil]; omega, (mem_cons' (by unfold SzN; first | omega | (simp only [List.length_append, List.length_cons, List.length_nil]; omega)) (mem_cons' (by unfold SzN; first | omega | (simp only [List.length_append, List.length_cons, List.length_nil]; omega)) (mem_cons' (by unfold SzN; first | omega | (simp only [List.length_append, List.length_cons, List.length_nil]; omega)) (mem_cons' (by unfold SzN; first | omega | (simp only [List.length_append, List.length_cons, List.length_nil]; omega)) (mem_cons' (by unfold SzN; first | omega | (simp only [List.length_append, List.length_cons, List.length_nil]; omega)) (mem_cons' (by unfold SzN; first | omega | (simp only [List.length_append, List.length_cons, List.length_nil]; omega)) (fun _ h => by cases h)))))))⟩
  have lq1 : [([99, 114, 101, 97, 116, 117, 114, 101] : List UInt8), ([105, 110, 115, 116, 97, 110, 116] : List UInt8), ([114, 105, 116, 117, 97, 108] : List UInt8), ([114, 101, 108, 105, 99] : List UInt8), ([99, 104, 97, 114, 109] : List UInt8), ([108, 97, 110, 100] : List UInt8)].length = 6 := rfl
  exact Tot.inr (show ((SzL 16 SzN) [([99, 114, 101, 97, 116, 117, 114, 101] : List UInt8), ([105, 110, 115, 116, 97, 110, 116] : List UInt8), ([114, 105, 116, 117, 97, 108] : List UInt8), ([114, 101, 108, 105, 99] : List UInt8), ([99, 104, 97, 114, 109] : List UInt8), ([108, 97, 110, 100] : List UInt8)]) ∧ ([([99, 114, 101, 97, 116, 117, 114, 101] : List UInt8), ([105, 110, 115, 116, 97, 110, 116] : List UInt8), ([114, 105, 116, 117, 97, 108] : List UInt8), ([114, 101, 108, 105, 99] : List UInt8), ([99, 104, 97, 114, 109] : List UInt8), ([108, 97, 110, 100] : List UInt8)].length = 6) from ⟨q1, (by omega)⟩)
 ·intro s
  cases s
abbrev Zbba : Zm4 → Prop := fun _ => True
abbrev Zbf0 : Zm4 → M6 := fun _ => (0, 0, 0, 0, 0, 0)
theorem Z87 (a0 : (List UInt8)) (oa0 : SzT a0) : Tot (Z1e a0) (fun r => True) := by
 unfold Z1e
 refine Tot.fin (Inv := Zbba) (μ := Zbf0) (m := (1000000, 0, 0, 0, 0, 0)) ?_ ?_
 ·have lb_a0 : a0.length ≤ 562949953421312 := oa0
  unfold Zagi
  refine Tot.bind (Zame a0 oa0) (fun x1 h2 => ?_)
  refine Tot.bif (fun h3 => ?_) (fun h3 => ?_)
  ·refine Tot.bind (Zar0) (fun x4 h5 => ?_)
   replace h5 : ((SzL 16 SzN) x4) ∧ (x4.length = 2) := h5
   have eh5_1 := h5.2
   try simp only [List.length_nil, List.length_cons, Nat.zero_add] at eh5_1
   refine Tot.bind (Zan3 x4 a0 (SzL.nt h5.1) oa0) (fun x6 h7 => ?_)
   refine Tot.dif (fun h8 => ?_) (fun h8 => ?_)
   ·refine Tot.bind (Z92) (fun x9 h10 => ?_)
    replace h10 : ((SzL 16 SzN) x9) ∧ (x9.length = 6) := h10
    have eh10_1 := h10.2
    try simp only [List.length_nil, List.length_cons, Nat.zero_add] at eh10_1
    refine Tot.bind (Zan3 x9 a0 (SzL.nt h10.1) oa0) (fun x11 h12 => ?_)
    exact Tot.inr trivial
   ·exact Tot.inr trivial
  ·exact Tot.inr trivial
 ·intro s
  cases s
abbrev Zaie : Zno → Prop
 | .L0 v0 v1 v5 => (0 ≤ v5) ∧ (v1 ≤ 100)
abbrev Z4e : Zno → M6
 | .L0 v0 v1 v5 => (1, (v1 - v5).toNat, 1000000, 0, 0, 0)
theorem Za6w (v0 : Int) (v1 : Int) (v5 : Int) (h : Zaie (.L0 v0 v1 v5)) : Tot (Z99 v0 v1 v5) (Nx Zaie Z4e (Z4e (.L0 v0 v1 v5)) (fun r => True)) := by
 obtain ⟨cv5, i0⟩ := h
 unfold Z99
 refine Tot.dif (fun h1 => ?_) (fun h1 => ?_)
 ·have q2 := Za3 (v5 + 1)
  have q3 := Za4 (v5 + 1)
  exact Tot.inl ⟨(by omega), (by omega)⟩ (by unfold Z4e lt6; dsimp only; omega)
 ·exact Tot.inr trivial
theorem Zaif (a0 : Int) (a1 : Int) (h0 : a1 ≤ 100) : Tot (Zaay a0 a1) (fun r => True) := by
 unfold Zaay
 refine Tot.fin (Inv := Zaie) (μ := Z4e) (m := (1000000, 0, 0, 0, 0, 0)) ?_ ?_
 ·unfold Zao2
  exact Tot.inl ⟨(by omega), (by omega)⟩ (by unfold Z4e lt6; dsimp only; omega)
 ·intro s hs
  cases s with
  | L0 v0 v1 v5 => exact Za6w v0 v1 v5 hs
abbrev Zamg : Zph → Prop
 | .L0 E0 v3 => (Z7a E0) ∧ (0 ≤ v3)
abbrev Z14 : Zph → M6
 | .L0 E0 v3 => (1, ((E0.Subs.length : Int) - v3).toNat, 1000000, 0, 0, 0)
theorem Zbbb (E0 : Zkt) (v3 : Int) (h : Zamg (.L0 E0 v3)) : Tot (Zaey E0 v3) (Nx Zamg Z14 (Z14 (.L0 E0 v3)) (fun r => True)) := by
 obtain ⟨ob30000000, cv3⟩ := h
 unfold Zaey
 have q1 := ob30000000.1
 refine Tot.dif (fun h2 => ?_) (fun h2 => ?_)
 ·refine Tot.bind (Tot.idx (by omega) (by omega)) (fun x3 h4 => ?_)
  have oh4 : SzT x3 := ob30000000.2 x3 h4.1
  refine Tot.bind (Z87 x3 oh4) (fun x5 h6 => ?_)
  refine Tot.not (fun h7 => ?_) (fun h7 => ?_)
  ·exact Tot.inr trivial
  ·refine Tot.dif (fun h8 => ?_) (fun h8 => ?_)
   ·have q9 := Za3 (v3 - 1)
    have q10 := Za4 (v3 - 1)
    refine Tot.bind (Tot.idx (by omega) (by omega)) (fun x11 h12 => ?_)
    have oh12 : SzT x11 := ob30000000.2 x11 h12.1
    refine Tot.not (fun h13 => ?_) (fun h13 => ?_)
    ·exact Tot.inr trivial
    ·have q14 := Za3 (v3 + 1)
     have q15 := Za4 (v3 + 1)
     exact Tot.inl ⟨ob30000000, (by omega)⟩ (by unfold Z14 lt6; dsimp only; omega)
   ·have q16 := Za3 (v3 + 1)
    have q17 := Za4 (v3 + 1)
    exact Tot.inl ⟨ob30000000, (by omega)⟩ (by unfold Z14 lt6; dsimp only; omega)
 ·refine Tot.ieq (fun h18 => ?_) (fun h18 => ?_)
  ·exact Tot.inr trivial
  ·refine Tot.ieq (fun h19 => ?_) (fun h19 => ?_)
   ·exact Tot.inr trivial
   ·refine Tot.bind (Zaif E0.Types 1 (by omega)) (fun x20 h21 => ?_)
    refine Tot.not (fun h22 => ?_) (fun h22 => ?_)
    ·refine Tot.bind (Zaif E0.Types 2 (by omega)) (fun x23 h24 => ?_)
     exact Tot.inr trivial
    ·exact Tot.inr trivial
theorem Zbl9 (a0 : Zkt) (oa0 : Z7a a0) : Tot (Zaz4 a0) (fun r => True) := by
 unfold Zaz4
 refine Tot.fin (Inv := Zamg) (μ := Z14) (m := (1000000, 0, 0, 0, 0, 0)) ?_ ?_
 ·unfold Zawh
  refine Tot.dif (fun h1 => ?_) (fun h1 => ?_)
  ·exact Tot.inr trivial
  ·refine Tot.dif (fun h2 => ?_) (fun h2 => ?_)
   ·exact Tot.inr trivial
   ·refine Tot.dif (fun h3 => ?_) (fun h3 => ?_)
    ·exact Tot.inr trivial
    ·refine Tot.dif (fun h4 => ?_) (fun h4 => ?_)
     ·exact Tot.inr trivial
     ·have q5 := oa0.1
      refine Tot.dif (fun h6 => ?_) (fun h6 => ?_)
      ·exact Tot.inr trivial
      ·exact Tot.inl ⟨oa0, (by omega)⟩ (by unfold Z14 lt6; dsimp only; omega)
 ·intro s hs
  cases s with
  | L0 E0 v3 => exact Zbbb E0 v3 hs
abbrev Zbma : Ztd → Prop := fun _ => True
abbrev Zbn8 : Ztd → M6 := fun _ => (0, 0, 0, 0, 0, 0)
theorem Za24 (a0 : Int) : Tot (Zao3 a0) (fun r => True) := by
 unfold Zao3
 refine Tot.fin (Inv := Zbma) (μ := Zbn8) (m := (1000000, 0, 0, 0, 0, 0)) ?_ ?_
 ·unfold Zawi
  refine Tot.dif (fun h1 => ?_) (fun h1 => ?_)
  ·exact Tot.inr trivial
  ·exact Tot.inr trivial
 ·intro s
  cases s
abbrev Zayg : Zjh → Prop := fun _ => True
abbrev Za25 : Zjh → M6 := fun _ => (0, 0, 0, 0, 0, 0)
theorem Zayh (a0 : Zw) (oa0 : Zb9 a0) : Tot (Z2g a0) (fun r => True) := by
 unfold Z2g
 refine Tot.fin (Inv := Zayg) (μ := Za25) (m := (1000000, 0, 0, 0, 0, 0)) ?_ ?_
 ·unfold Z48
  exact Tot.inr trivial
 ·intro s
  cases s
abbrev Z88 : Zkc → Prop
 | .L0 v0 v1 v7 => (0 ≤ v7)
abbrev Zsi : Zkc → M6
 | .L0 v0 v1 v7 => (1, (6 - v7).toNat, 1000000, 0, 0, 0)
theorem Zayi (v0 : Int) (v1 : Int) (v7 : Int) (h : Z88 (.L0 v0 v1 v7)) : Tot (Z2h v0 v1 v7) (Nx Z88 Zsi (Zsi (.L0 v0 v1 v7)) (fun r => True)) := by
 have cv7 := h
 unfold Z2h
 refine Tot.dif (fun h1 => ?_) (fun h1 => ?_)
 ·refine Tot.ieq (fun h2 => ?_) (fun h2 => ?_)
  ·refine Tot.ieq (fun h3 => ?_) (fun h3 => ?_)
   ·exact Tot.inr trivial
   ·have q4 := Za3 (v7 + 1)
    have q5 := Za4 (v7 + 1)
    exact Tot.inl (by omega) (by unfold Zsi lt6; dsimp only; omega)
  ·have q6 := Za3 (v7 + 1)
   have q7 := Za4 (v7 + 1)
   exact Tot.inl (by omega) (by unfold Zsi lt6; dsimp only; omega)
 ·exact Tot.inr trivial
theorem Zan4 (a0 : Int) (a1 : Int) (a2 : Int) : Tot (Z7o a0 a1 a2) (fun r => True) := by
 unfold Z7o
 refine Tot.fin (Inv := Z88) (μ := Zsi) (m := (1000000, 0, 0, 0, 0, 0)) ?_ ?_
 ·unfold Zagj
  refine Tot.dif (fun h1 => ?_) (fun h1 => ?_)
  ·exact Tot.inr trivial
  ·refine Tot.dif (fun h2 => ?_) (fun h2 => ?_)
   ·exact Tot.inr trivial
   ·refine Tot.dif (fun h3 => ?_) (fun h3 => ?_)
    ·exact Tot.inr trivial
    ·refine Tot.dif (fun h4 => ?_) (fun h4 => ?_)
     ·exact Tot.inr trivial
     ·exact Tot.inl (by omega) (by unfold Zsi lt6; dsimp only; omega)
 ·intro s hs
  cases s with
  | L0 v0 v1 v7 => exact Zayi v0 v1 v7 hs
abbrev Zbbc : Zm5 → Prop := fun _ => True
abbrev Zbf1 : Zm5 → M6 := fun _ => (0, 0, 0, 0, 0, 0)
theorem Z89 (a0 : Ze) : Tot (Z1f a0) (fun r => (r = true → 0 ≤ a0.Kind ∧ a0.Kind ≤ 3)) := by
 unfold Z1f
 refine Tot.fin (Inv := Zbbc) (μ := Zbf1) (m := (1000000, 0, 0, 0, 0, 0)) ?_ ?_
 ·unfold Zagk
  refine Tot.dif (fun h1 => ?_) (fun h1 => ?_)
  ·exact Tot.inr (show (false = true → 0 ≤ a0.Kind ∧ a0.Kind ≤ 3) from (by intro hr; cases hr))
  ·refine Tot.dif (fun h2 => ?_) (fun h2 => ?_)
   ·exact Tot.inr (show (false = true → 0 ≤ a0.Kind ∧ a0.Kind ≤ 3) from (by intro hr; cases hr))
   ·refine Tot.dif (fun h3 => ?_) (fun h3 => ?_)
    ·exact Tot.inr (show (false = true → 0 ≤ a0.Kind ∧ a0.Kind ≤ 3) from (by intro hr; cases hr))
    ·refine Tot.dif (fun h4 => ?_) (fun h4 => ?_)
     ·exact Tot.inr (show (false = true → 0 ≤ a0.Kind ∧ a0.Kind ≤ 3) from (by intro hr; cases hr))
     ·refine Tot.ine (fun h5 => ?_) (fun h5 => ?_)
      ·exact Tot.inr (show (true = true → 0 ≤ a0.Kind ∧ a0.Kind ≤ 3) from (by intro hr; first | omega | (cases hr; done)))
      ·exact Tot.inr (show ((a0.N == 0) = true → 0 ≤ a0.Kind ∧ a0.Kind ≤ 3) from (by intro hr; first | omega | (cases hr; done)))
 ·intro s
  cases s
abbrev Za26 (a0 : Zi) : Zpi → Prop
 | .L0 E0 => (E0 = a0) ∧ (Zcv E0) ∧ (0 ≤ E0.Zone ∧ E0.Zone ≤ 5 ∧ 0 ≤ E0.Who ∧ E0.Who ≤ 2 ∧ 0 ≤ E0.Self ∧ E0.Self ≤ 2 ∧ 0 ≤ E0.Tap ∧ E0.Tap ≤ 2)
abbrev Za73 : Zpi → M6
 | .L0 E0 => (0, 0, 0, 0, 0, 0)
theorem Z9a (a0 : Zi) (E0 : Zi) (h : (E0 = a0) ∧ (Zcv E0) ∧ (0 ≤ E0.Zone ∧ E0.Zone ≤ 5 ∧ 0 ≤ E0.Who ∧ E0.Who ≤ 2 ∧ 0 ≤ E0.Self ∧ E0.Self ≤ 2 ∧ 0 ≤ E0.Tap ∧ E0.Tap ≤ 2)) : Tot (Z1g E0) (Nx (Za26 a0) Za73 (0, 0, 0, 0, 0, 0) (fun r => (r = true → 0 ≤ a0.Zone ∧ a0.Zone ≤ 5 ∧ 0 ≤ a0.Who ∧ a0.Who ≤ 2 ∧ 0 ≤ a0.Self ∧ a0.Self ≤ 2 ∧ 0 ≤ a0.Tap ∧ a0.Tap ≤ 2 ∧ 0 ≤ a0.Power.Kind ∧ a0.Power.Kind ≤ 3 ∧ 0 ≤ a0.Tough.Kind ∧ a0.Tough.Kind ≤ 3 ∧ 0 ≤ a0.Value.Kind ∧ a0.Value.Kind ≤ 3))) := by
 obtain ⟨al0, ob30000000, i0⟩ := h
 subst al0
 unfold Z1g
 refine Tot.bind (Z89 E0.Power) (fun x1 h2 => ?_)
 replace h2 : (x1 = true → 0 ≤ E0.Power.Kind ∧ E0.Power.Kind ≤ 3) := h2
 have eh2_0 := h2
 refine Tot.bif (fun h3 => ?_) (fun h3 => ?_)
 ·have h3_0 := eh2_0 h3
  refine Tot.bind (Z89 E0.Tough) (fun x4 h5 => ?_)
  replace h5 : (x4 = true → 0 ≤ E0.Tough.Kind ∧ E0.Tough.Kind ≤ 3) := h5
  have eh5_0 := h5
  refine Tot.bif (fun h6 => ?_) (fun h6 => ?_)
  ·have h6_0 := eh5_0 h6
   refine Tot.bind (Z89 E0.Value) (fun x7 h8 => ?_)
   replace h8 : (x7 = true → 0 ≤ E0.Value.Kind ∧ E0.Value.Kind ≤ 3) := h8
   have eh8_0 := h8
   exact Tot.inr (show (x7 = true → 0 ≤ E0.Zone ∧ E0.Zone ≤ 5 ∧ 0 ≤ E0.Who ∧ E0.Who ≤ 2 ∧ 0 ≤ E0.Self ∧ E0.Self ≤ 2 ∧ 0 ≤ E0.Tap ∧ E0.Tap ≤ 2 ∧ 0 ≤ E0.Power.Kind ∧ E0.Power.Kind ≤ 3 ∧ 0 ≤ E0.Tough.Kind ∧ E0.Tough.Kind ≤ 3 ∧ 0 ≤ E0.Value.Kind ∧ E0.Value.Kind ≤ 3) from (by intro hr; have := eh8_0 hr; first | omega | (cases hr; done)))
  ·exact Tot.inr (show (false = true → 0 ≤ E0.Zone ∧ E0.Zone ≤ 5 ∧ 0 ≤ E0.Who ∧ E0.Who ≤ 2 ∧ 0 ≤ E0.Self ∧ E0.Self ≤ 2 ∧ 0 ≤ E0.Tap ∧ E0.Tap ≤ 2 ∧ 0 ≤ E0.Power.Kind ∧ E0.Power.Kind ≤ 3 ∧ 0 ≤ E0.Tough.Kind ∧ E0.Tough.Kind ≤ 3 ∧ 0 ≤ E0.Value.Kind ∧ E0.Value.Kind ≤ 3) from (by intro hr; cases hr))
 ·exact Tot.inr (show (false = true → 0 ≤ E0.Zone ∧ E0.Zone ≤ 5 ∧ 0 ≤ E0.Who ∧ E0.Who ≤ 2 ∧ 0 ≤ E0.Self ∧ E0.Self ≤ 2 ∧ 0 ≤ E0.Tap ∧ E0.Tap ≤ 2 ∧ 0 ≤ E0.Power.Kind ∧ E0.Power.Kind ≤ 3 ∧ 0 ≤ E0.Tough.Kind ∧ E0.Tough.Kind ≤ 3 ∧ 0 ≤ E0.Value.Kind ∧ E0.Value.Kind ≤ 3) from (by intro hr; cases hr))
theorem Zmb (a0 : Zi) (oa0 : Zcv a0) : Tot (Zqc a0) (fun r => (r = true → 0 ≤ a0.Zone ∧ a0.Zone ≤ 5 ∧ 0 ≤ a0.Who ∧ a0.Who ≤ 2 ∧ 0 ≤ a0.Self ∧ a0.Self ≤ 2 ∧ 0 ≤ a0.Tap ∧ a0.Tap ≤ 2 ∧ 0 ≤ a0.Power.Kind ∧ a0.Power.Kind ≤ 3 ∧ 0 ≤ a0.Tough.Kind ∧ a0.Tough.Kind ≤ 3 ∧ 0 ≤ a0.Value.Kind ∧ a0.Value.Kind ≤ 3)) := by
 unfold Zqc
 refine Tot.fin (Inv := (Za26 a0)) (μ := Za73) (m := (1000000, 0, 0, 0, 0, 0)) ?_ ?_
 ·unfold Zawj
  refine Tot.dif (fun h1 => ?_) (fun h1 => ?_)
  ·exact Tot.inr (show (false = true → 0 ≤ a0.Zone ∧ a0.Zone ≤ 5 ∧ 0 ≤ a0.Who ∧ a0.Who ≤ 2 ∧ 0 ≤ a0.Self ∧ a0.Self ≤ 2 ∧ 0 ≤ a0.Tap ∧ a0.Tap ≤ 2 ∧ 0 ≤ a0.Power.Kind ∧ a0.Power.Kind ≤ 3 ∧ 0 ≤ a0.Tough.Kind ∧ a0.Tough.Kind ≤ 3 ∧ 0 ≤ a0.Value.Kind ∧ a0.Value.Kind ≤ 3) from (by intro hr; cases hr))
  ·refine Tot.dif (fun h2 => ?_) (fun h2 => ?_)
   ·exact Tot.inr (show (false = true → 0 ≤ a0.Zone ∧ a0.Zone ≤ 5 ∧ 0 ≤ a0.Who ∧ a0.Who ≤ 2 ∧ 0 ≤ a0.Self ∧ a0.Self ≤ 2 ∧ 0 ≤ a0.Tap ∧ a0.Tap ≤ 2 ∧ 0 ≤ a0.Power.Kind ∧ a0.Power.Kind ≤ 3 ∧ 0 ≤ a0.Tough.Kind ∧ a0.Tough.Kind ≤ 3 ∧ 0 ≤ a0.Value.Kind ∧ a0.Value.Kind ≤ 3) from (by intro hr; cases hr))
   ·refine Tot.dif (fun h3 => ?_) (fun h3 => ?_)
    ·exact Tot.inr (show (false = true → 0 ≤ a0.Zone ∧ a0.Zone ≤ 5 ∧ 0 ≤ a0.Who ∧ a0.Who ≤ 2 ∧ 0 ≤ a0.Self ∧ a0.Self ≤ 2 ∧ 0 ≤ a0.Tap ∧ a0.Tap ≤ 2 ∧ 0 ≤ a0.Power.Kind ∧ a0.Power.Kind ≤ 3 ∧ 0 ≤ a0.Tough.Kind ∧ a0.Tough.Kind ≤ 3 ∧ 0 ≤ a0.Value.Kind ∧ a0.Value.Kind ≤ 3) from (by intro hr; cases hr))
    ·refine Tot.dif (fun h4 => ?_) (fun h4 => ?_)
     ·exact Tot.inr (show (false = true → 0 ≤ a0.Zone ∧ a0.Zone ≤ 5 ∧ 0 ≤ a0.Who ∧ a0.Who ≤ 2 ∧ 0 ≤ a0.Self ∧ a0.Self ≤ 2 ∧ 0 ≤ a0.Tap ∧ a0.Tap ≤ 2 ∧ 0 ≤ a0.Power.Kind ∧ a0.Power.Kind ≤ 3 ∧ 0 ≤ a0.Tough.Kind ∧ a0.Tough.Kind ≤ 3 ∧ 0 ≤ a0.Value.Kind ∧ a0.Value.Kind ≤ 3) from (by intro hr; cases hr))
     ·refine Tot.dif (fun h5 => ?_) (fun h5 => ?_)
      ·exact Tot.inr (show (false = true → 0 ≤ a0.Zone ∧ a0.Zone ≤ 5 ∧ 0 ≤ a0.Who ∧ a0.Who ≤ 2 ∧ 0 ≤ a0.Self ∧ a0.Self ≤ 2 ∧ 0 ≤ a0.Tap ∧ a0.Tap ≤ 2 ∧ 0 ≤ a0.Power.Kind ∧ a0.Power.Kind ≤ 3 ∧ 0 ≤ a0.Tough.Kind ∧ a0.Tough.Kind ≤ 3 ∧ 0 ≤ a0.Value.Kind ∧ a0.Value.Kind ≤ 3) from (by intro hr; cases hr))
      ·refine Tot.dif (fun h6 => ?_) (fun h6 => ?_)
       ·exact Tot.inr (show (false = true → 0 ≤ a0.Zone ∧ a0.Zone ≤ 5 ∧ 0 ≤ a0.Who ∧ a0.Who ≤ 2 ∧ 0 ≤ a0.Self ∧ a0.Self ≤ 2 ∧ 0 ≤ a0.Tap ∧ a0.Tap ≤ 2 ∧ 0 ≤ a0.Power.Kind ∧ a0.Power.Kind ≤ 3 ∧ 0 ≤ a0.Tough.Kind ∧ a0.Tough.Kind ≤ 3 ∧ 0 ≤ a0.Value.Kind ∧ a0.Value.Kind ≤ 3) from (by intro hr; cases hr))
       ·refine Tot.dif (fun h7 => ?_) (fun h7 => ?_)
        ·exact Tot.inr (show (false = true → 0 ≤ a0.Zone ∧ a0.Zone ≤ 5 ∧ 0 ≤ a0.Who ∧ a0.Who ≤ 2 ∧ 0 ≤ a0.Self ∧ a0.Self ≤ 2 ∧ 0 ≤ a0.Tap ∧ a0.Tap ≤ 2 ∧ 0 ≤ a0.Power.Kind ∧ a0.Power.Kind ≤ 3 ∧ 0 ≤ a0.Tough.Kind ∧ a0.Tough.Kind ≤ 3 ∧ 0 ≤ a0.Value.Kind ∧ a0.Value.Kind ≤ 3) from (by intro hr; cases hr))
        ·refine Tot.dif (fun h8 => ?_) (fun h8 => ?_)
         ·exact Tot.inr (show (false = true → 0 ≤ a0.Zone ∧ a0.Zone ≤ 5 ∧ 0 ≤ a0.Who ∧ a0.Who ≤ 2 ∧ 0 ≤ a0.Self ∧ a0.Self ≤ 2 ∧ 0 ≤ a0.Tap ∧ a0.Tap ≤ 2 ∧ 0 ≤ a0.Power.Kind ∧ a0.Power.Kind ≤ 3 ∧ 0 ≤ a0.Tough.Kind ∧ a0.Tough.Kind ≤ 3 ∧ 0 ≤ a0.Value.Kind ∧ a0.Value.Kind ≤ 3) from (by intro hr; cases hr))
         ·refine Tot.bind (Zan4 a0.Types a0.NotTypes 63) (fun x9 h10 => ?_)
          refine Tot.not (fun h11 => ?_) (fun h11 => ?_)
          ·exact Tot.inr (show (false = true → 0 ≤ a0.Zone ∧ a0.Zone ≤ 5 ∧ 0 ≤ a0.Who ∧ a0.Who ≤ 2 ∧ 0 ≤ a0.Self ∧ a0.Self ≤ 2 ∧ 0 ≤ a0.Tap ∧ a0.Tap ≤ 2 ∧ 0 ≤ a0.Power.Kind ∧ a0.Power.Kind ≤ 3 ∧ 0 ≤ a0.Tough.Kind ∧ a0.Tough.Kind ≤ 3 ∧ 0 ≤ a0.Value.Kind ∧ a0.Value.Kind ≤ 3) from (by intro hr; cases hr))
          ·refine Tot.bind (Zan4 a0.Colors a0.NotColors 31) (fun x12 h13 => ?_)
           refine Tot.not (fun h14 => ?_) (fun h14 => ?_)
           ·exact Tot.inr (show (false = true → 0 ≤ a0.Zone ∧ a0.Zone ≤ 5 ∧ 0 ≤ a0.Who ∧ a0.Who ≤ 2 ∧ 0 ≤ a0.Self ∧ a0.Self ≤ 2 ∧ 0 ≤ a0.Tap ∧ a0.Tap ≤ 2 ∧ 0 ≤ a0.Power.Kind ∧ a0.Power.Kind ≤ 3 ∧ 0 ≤ a0.Tough.Kind ∧ a0.Tough.Kind ≤ 3 ∧ 0 ≤ a0.Value.Kind ∧ a0.Value.Kind ≤ 3) from (by intro hr; cases hr))
           ·refine Tot.not (fun h15 => ?_) (fun h15 => ?_)
            ·refine Tot.bind (Z87 a0.Sub (SzS.t oa0)) (fun x16 h17 => ?_)
             refine Tot.not (fun h18 => ?_) (fun h18 => ?_)
             ·exact Tot.inr (show (false = true → 0 ≤ a0.Zone ∧ a0.Zone ≤ 5 ∧ 0 ≤ a0.Who ∧ a0.Who ≤ 2 ∧ 0 ≤ a0.Self ∧ a0.Self ≤ 2 ∧ 0 ≤ a0.Tap ∧ a0.Tap ≤ 2 ∧ 0 ≤ a0.Power.Kind ∧ a0.Power.Kind ≤ 3 ∧ 0 ≤ a0.Tough.Kind ∧ a0.Tough.Kind ≤ 3 ∧ 0 ≤ a0.Value.Kind ∧ a0.Value.Kind ≤ 3) from (by intro hr; cases hr))
             ·refine Tot.dif (fun h19 => ?_) (fun h19 => ?_)
              ·exact Tot.inr (show (false = true → 0 ≤ a0.Zone ∧ a0.Zone ≤ 5 ∧ 0 ≤ a0.Who ∧ a0.Who ≤ 2 ∧ 0 ≤ a0.Self ∧ a0.Self ≤ 2 ∧ 0 ≤ a0.Tap ∧ a0.Tap ≤ 2 ∧ 0 ≤ a0.Power.Kind ∧ a0.Power.Kind ≤ 3 ∧ 0 ≤ a0.Tough.Kind ∧ a0.Tough.Kind ≤ 3 ∧ 0 ≤ a0.Value.Kind ∧ a0.Value.Kind ≤ 3) from (by intro hr; cases hr))
              ·refine Tot.dif (fun h20 => ?_) (fun h20 => ?_)
               ·exact Tot.inr (show (false = true → 0 ≤ a0.Zone ∧ a0.Zone ≤ 5 ∧ 0 ≤ a0.Who ∧ a0.Who ≤ 2 ∧ 0 ≤ a0.Self ∧ a0.Self ≤ 2 ∧ 0 ≤ a0.Tap ∧ a0.Tap ≤ 2 ∧ 0 ≤ a0.Power.Kind ∧ a0.Power.Kind ≤ 3 ∧ 0 ≤ a0.Tough.Kind ∧ a0.Tough.Kind ≤ 3 ∧ 0 ≤ a0.Value.Kind ∧ a0.Value.Kind ≤ 3) from (by intro hr; cases hr))
               ·exact Tot.join (Z9a a0 a0 ⟨rfl, oa0, (by omega)⟩) (by unfold le6 lt6; dsimp only; omega)
            ·refine Tot.dif (fun h21 => ?_) (fun h21 => ?_)
             ·exact Tot.inr (show (false = true → 0 ≤ a0.Zone ∧ a0.Zone ≤ 5 ∧ 0 ≤ a0.Who ∧ a0.Who ≤ 2 ∧ 0 ≤ a0.Self ∧ a0.Self ≤ 2 ∧ 0 ≤ a0.Tap ∧ a0.Tap ≤ 2 ∧ 0 ≤ a0.Power.Kind ∧ a0.Power.Kind ≤ 3 ∧ 0 ≤ a0.Tough.Kind ∧ a0.Tough.Kind ≤ 3 ∧ 0 ≤ a0.Value.Kind ∧ a0.Value.Kind ≤ 3) from (by intro hr; cases hr))
             ·refine Tot.dif (fun h22 => ?_) (fun h22 => ?_)
              ·exact Tot.inr (show (false = true → 0 ≤ a0.Zone ∧ a0.Zone ≤ 5 ∧ 0 ≤ a0.Who ∧ a0.Who ≤ 2 ∧ 0 ≤ a0.Self ∧ a0.Self ≤ 2 ∧ 0 ≤ a0.Tap ∧ a0.Tap ≤ 2 ∧ 0 ≤ a0.Power.Kind ∧ a0.Power.Kind ≤ 3 ∧ 0 ≤ a0.Tough.Kind ∧ a0.Tough.Kind ≤ 3 ∧ 0 ≤ a0.Value.Kind ∧ a0.Value.Kind ≤ 3) from (by intro hr; cases hr))
              ·exact Tot.join (Z9a a0 a0 ⟨rfl, oa0, (by omega)⟩) (by unfold le6 lt6; dsimp only; omega)
 ·intro s hs
  cases s with
  | L0 E0 => exact Z9a a0 E0 hs
abbrev Zxk : Zji → Prop
 | .L0 E0 E1 v7 v8 => (Zau E0) ∧ (Zau E1)
 | .L1 E0 E1 v7 v16 => (Zau E0) ∧ (Zau E1)
abbrev Zzg : Zji → M6
 | .L0 E0 E1 v7 v8 => (0, 0, 0, 0, 0, 0)
 | .L1 E0 E1 v7 v16 => (0, 0, 0, 0, 0, 0)
theorem Z4f (E0 : Zh) (E1 : Zh) (v7 : Int) (v16 : Bool) (h : Zxk (.L1 E0 E1 v7 v16)) : Tot (Zu0 E0 E1 v7 v16) (Nx Zxk Zzg (Zzg (.L1 E0 E1 v7 v16)) (fun r => (Zau r))) := by
 obtain ⟨ob30000000, ob30000001⟩ := h
 unfold Zu0
 refine Tot.bif (fun h1 => ?_) (fun h1 => ?_)
 ·exact Tot.inr (show (Zau (⟨E0.Kind, E0.N, E0.M, ([] : List UInt8), E0.Filter⟩ : Zh)) from ⟨(SzS.nil), ob30000000.2⟩)
 ·refine Tot.ieq (fun h2 => ?_) (fun h2 => ?_)
  ·exact Tot.inr (show (Zau (⟨E0.Kind, E0.N, E0.M, E0.Sub, (⟨0, 0, 0, 0, 0, 0, 0, ([] : List UInt8), 0, 0, (⟨0, 0⟩ : Ze), (⟨0, 0⟩ : Ze), (⟨0, 0⟩ : Ze)⟩ : Zi)⟩ : Zh)) from ⟨ob30000000.1, (SzS.nil)⟩)
  ·refine Tot.ieq (fun h3 => ?_) (fun h3 => ?_)
   ·exact Tot.inr (show (Zau (⟨E0.Kind, 0, 0, E0.Sub, E0.Filter⟩ : Zh)) from ⟨ob30000000.1, ob30000000.2⟩)
   ·refine Tot.ieq (fun h4 => ?_) (fun h4 => ?_)
    ·exact Tot.inr (show (Zau (⟨E0.Kind, 0, 0, E0.Sub, E0.Filter⟩ : Zh)) from ⟨ob30000000.1, ob30000000.2⟩)
    ·exact Tot.inr (show (Zau E0) from ob30000000)
theorem Zmc (E0 : Zh) (E1 : Zh) (v7 : Int) (v8 : Bool) (h : Zxk (.L0 E0 E1 v7 v8)) : Tot (Zle E0 E1 v7 v8) (Nx Zxk Zzg (Zzg (.L0 E0 E1 v7 v8)) (fun r => (Zau r))) := by
 obtain ⟨ob30000000, ob30000001⟩ := h
 unfold Zle
 refine Tot.bif (fun h1 => ?_) (fun h1 => ?_)
 ·exact Tot.inr (show (Zau (⟨E0.Kind, 0, E0.M, E0.Sub, E0.Filter⟩ : Zh)) from ⟨ob30000000.1, ob30000000.2⟩)
 ·refine Tot.ieq (fun h2 => ?_) (fun h2 => ?_)
  ·exact Tot.join (Z4f E0 E1 v7 (v7 == 4) ⟨ob30000000, ob30000001⟩) (by unfold le6 lt6; dsimp only; omega)
  ·exact Tot.join (Z4f E0 E1 v7 (v7 == 5) ⟨ob30000000, ob30000001⟩) (by unfold le6 lt6; dsimp only; omega)
theorem Zbf2 (a0 : Zh) (oa0 : Zau a0) : Tot (Zajy a0) (fun r => (Zau r)) := by
 unfold Zajy
 refine Tot.fin (Inv := Zxk) (μ := Zzg) (m := (1000000, 0, 0, 0, 0, 0)) ?_ ?_
 ·unfold Zajx
  refine Tot.ieq (fun h1 => ?_) (fun h1 => ?_)
  ·exact Tot.join (Zmc (⟨0, a0.N, a0.M, a0.Sub, a0.Filter⟩ : Zh) (⟨0, 0, 0, ([] : List UInt8), (⟨0, 0, 0, 0, 0, 0, 0, ([] : List UInt8), 0, 0, (⟨0, 0⟩ : Ze), (⟨0, 0⟩ : Ze), (⟨0, 0⟩ : Ze)⟩ : Zi)⟩ : Zh) a0.Kind (a0.Kind == 2) (show (Zau (⟨0, a0.N, a0.M, a0.Sub, a0.Filter⟩ : Zh)) ∧ (Zau (⟨0, 0, 0, ([] : List UInt8), (⟨0, 0, 0, 0, 0, 0, 0, ([] : List UInt8), 0, 0, (⟨0, 0⟩ : Ze), (⟨0, 0⟩ : Ze), (⟨0, 0⟩ : Ze)⟩ : Zi)⟩ : Zh)) from ⟨⟨oa0.1, oa0.2⟩, ⟨(SzS.nil), (SzS.nil)⟩⟩)) (by unfold le6 lt6; dsimp only; omega)
  ·refine Tot.ieq (fun h2 => ?_) (fun h2 => ?_)
   ·exact Tot.join (Zmc (⟨0, a0.N, a0.M, a0.Sub, a0.Filter⟩ : Zh) (⟨0, 0, 0, ([] : List UInt8), (⟨0, 0, 0, 0, 0, 0, 0, ([] : List UInt8), 0, 0, (⟨0, 0⟩ : Ze), (⟨0, 0⟩ : Ze), (⟨0, 0⟩ : Ze)⟩ : Zi)⟩ : Zh) a0.Kind (a0.Kind == 3) (show (Zau (⟨0, a0.N, a0.M, a0.Sub, a0.Filter⟩ : Zh)) ∧ (Zau (⟨0, 0, 0, ([] : List UInt8), (⟨0, 0, 0, 0, 0, 0, 0, ([] : List UInt8), 0, 0, (⟨0, 0⟩ : Ze), (⟨0, 0⟩ : Ze), (⟨0, 0⟩ : Ze)⟩ : Zi)⟩ : Zh)) from ⟨⟨oa0.1, oa0.2⟩, ⟨(SzS.nil), (SzS.nil)⟩⟩)) (by unfold le6 lt6; dsimp only; omega)
   ·refine Tot.ieq (fun h3 => ?_) (fun h3 => ?_)
    ·exact Tot.join (Zmc (⟨0, a0.N, a0.M, a0.Sub, a0.Filter⟩ : Zh) (⟨0, 0, 0, ([] : List UInt8), (⟨0, 0, 0, 0, 0, 0, 0, ([] : List UInt8), 0, 0, (⟨0, 0⟩ : Ze), (⟨0, 0⟩ : Ze), (⟨0, 0⟩ : Ze)⟩ : Zi)⟩ : Zh) a0.Kind (a0.Kind == 6) (show (Zau (⟨0, a0.N, a0.M, a0.Sub, a0.Filter⟩ : Zh)) ∧ (Zau (⟨0, 0, 0, ([] : List UInt8), (⟨0, 0, 0, 0, 0, 0, 0, ([] : List UInt8), 0, 0, (⟨0, 0⟩ : Ze), (⟨0, 0⟩ : Ze), (⟨0, 0⟩ : Ze)⟩ : Zi)⟩ : Zh)) from ⟨⟨oa0.1, oa0.2⟩, ⟨(SzS.nil), (SzS.nil)⟩⟩)) (by unfold le6 lt6; dsimp only; omega)
    ·refine Tot.ieq (fun h4 => ?_) (fun h4 => ?_)
     ·exact Tot.join (Zmc (⟨0, a0.N, a0.M, a0.Sub, a0.Filter⟩ : Zh) (⟨0, 0, 0, ([] : List UInt8), (⟨0, 0, 0, 0, 0, 0, 0, ([] : List UInt8), 0, 0, (⟨0, 0⟩ : Ze), (⟨0, 0⟩ : Ze), (⟨0, 0⟩ : Ze)⟩ : Zi)⟩ : Zh) a0.Kind (a0.Kind == 7) (show (Zau (⟨0, a0.N, a0.M, a0.Sub, a0.Filter⟩ : Zh)) ∧ (Zau (⟨0, 0, 0, ([] : List UInt8), (⟨0, 0, 0, 0, 0, 0, 0, ([] : List UInt8), 0, 0, (⟨0, 0⟩ : Ze), (⟨0, 0⟩ : Ze), (⟨0, 0⟩ : Ze)⟩ : Zi)⟩ : Zh)) from ⟨⟨oa0.1, oa0.2⟩, ⟨(SzS.nil), (SzS.nil)⟩⟩)) (by unfold le6 lt6; dsimp only; omega)
     ·refine Tot.ieq (fun h5 => ?_) (fun h5 => ?_)
      ·exact Tot.join (Zmc (⟨0, a0.N, a0.M, a0.Sub, a0.Filter⟩ : Zh) (⟨0, 0, 0, ([] : List UInt8), (⟨0, 0, 0, 0, 0, 0, 0, ([] : List UInt8), 0, 0, (⟨0, 0⟩ : Ze), (⟨0, 0⟩ : Ze), (⟨0, 0⟩ : Ze)⟩ : Zi)⟩ : Zh) a0.Kind (a0.Kind == 8) (show (Zau (⟨0, a0.N, a0.M, a0.Sub, a0.Filter⟩ : Zh)) ∧ (Zau (⟨0, 0, 0, ([] : List UInt8), (⟨0, 0, 0, 0, 0, 0, 0, ([] : List UInt8), 0, 0, (⟨0, 0⟩ : Ze), (⟨0, 0⟩ : Ze), (⟨0, 0⟩ : Ze)⟩ : Zi)⟩ : Zh)) from ⟨⟨oa0.1, oa0.2⟩, ⟨(SzS.nil), (SzS.nil)⟩⟩)) (by unfold le6 lt6; dsimp only; omega)
      ·exact Tot.join (Zmc (⟨0, a0.N, a0.M, a0.Sub, a0.Filter⟩ : Zh) (⟨0, 0, 0, ([] : List UInt8), (⟨0, 0, 0, 0, 0, 0, 0, ([] : List UInt8), 0, 0, (⟨0, 0⟩ : Ze), (⟨0, 0⟩ : Ze), (⟨0, 0⟩ : Ze)⟩ : Zi)⟩ : Zh) a0.Kind (a0.Kind == 9) (show (Zau (⟨0, a0.N, a0.M, a0.Sub, a0.Filter⟩ : Zh)) ∧ (Zau (⟨0, 0, 0, ([] : List UInt8), (⟨0, 0, 0, 0, 0, 0, 0, ([] : List UInt8), 0, 0, (⟨0, 0⟩ : Ze), (⟨0, 0⟩ : Ze), (⟨0, 0⟩ : Ze)⟩ : Zi)⟩ : Zh)) from ⟨⟨oa0.1, oa0.2⟩, ⟨(SzS.nil), (SzS.nil)⟩⟩)) (by unfold le6 lt6; dsimp only; omega)
 ·intro s hs
  cases s with
  | L0 E0 E1 v7 v8 => exact Zmc E0 E1 v7 v8 hs
  | L1 E0 E1 v7 v16 => exact Z4f E0 E1 v7 v16 hs
abbrev Zbbd : Zm6 → Prop := fun _ => True
abbrev Zbf3 : Zm6 → M6 := fun _ => (0, 0, 0, 0, 0, 0)
theorem Zbbe (a0 : Int) : Tot (Zaez a0) (fun r => True) := by
 unfold Zaez
 refine Tot.fin (Inv := Zbbd) (μ := Zbf3) (m := (1000000, 0, 0, 0, 0, 0)) ?_ ?_
 ·unfold Zagl
  refine Tot.dif (fun h1 => ?_) (fun h1 => ?_)
  ·refine Tot.dif (fun h2 => ?_) (fun h2 => ?_)
   ·exact Tot.inr trivial
   ·exact Tot.inr trivial
  ·exact Tot.inr trivial
 ·intro s
  cases s
abbrev Zt5 : Zku → Prop
 | .L0 E0 v18 v19 => (Zau E0)
 | .L1 E0 v18 v25 => (Zau E0)
 | .L2 E0 v18 v51 => (Zau E0)
abbrev Zxl : Zku → M6
 | .L0 E0 v18 v19 => (0, 0, 0, 0, 0, 0)
 | .L1 E0 v18 v25 => (0, 0, 0, 0, 0, 0)
 | .L2 E0 v18 v51 => (0, 0, 0, 0, 0, 0)
theorem Z9b (E0 : Zh) (v18 : Int) (v51 : Bool) (h : Zt5 (.L2 E0 v18 v51)) : Tot (Z1h E0 v18 v51) (Nx Zt5 Zxl (Zxl (.L2 E0 v18 v51)) (fun r => True)) := by
 have ob30000000 := h
 unfold Z1h
 refine Tot.bif (fun h1 => ?_) (fun h1 => ?_)
 ·refine Tot.dif (fun h2 => ?_) (fun h2 => ?_)
  ·exact Tot.inr trivial
  ·exact Tot.inr trivial
 ·refine Tot.ieq (fun h3 => ?_) (fun h3 => ?_)
  ·refine Tot.bind (Zmb E0.Filter ob30000000.2) (fun x4 h5 => ?_)
   replace h5 : (x4 = true → 0 ≤ E0.Filter.Zone ∧ E0.Filter.Zone ≤ 5 ∧ 0 ≤ E0.Filter.Who ∧ E0.Filter.Who ≤ 2 ∧ 0 ≤ E0.Filter.Self ∧ E0.Filter.Self ≤ 2 ∧ 0 ≤ E0.Filter.Tap ∧ E0.Filter.Tap ≤ 2 ∧ 0 ≤ E0.Filter.Power.Kind ∧ E0.Filter.Power.Kind ≤ 3 ∧ 0 ≤ E0.Filter.Tough.Kind ∧ E0.Filter.Tough.Kind ≤ 3 ∧ 0 ≤ E0.Filter.Value.Kind ∧ E0.Filter.Value.Kind ≤ 3) := h5
   have eh5_0 := h5
   exact Tot.inr trivial
  ·refine Tot.ieq (fun h6 => ?_) (fun h6 => ?_)
   ·refine Tot.dif (fun h7 => ?_) (fun h7 => ?_)
    ·refine Tot.dif (fun h8 => ?_) (fun h8 => ?_)
     ·refine Tot.dif (fun h9 => ?_) (fun h9 => ?_)
      ·exact Tot.inr trivial
      ·exact Tot.inr trivial
     ·exact Tot.inr trivial
    ·exact Tot.inr trivial
   ·refine Tot.ieq (fun h10 => ?_) (fun h10 => ?_)
    ·refine Tot.dif (fun h11 => ?_) (fun h11 => ?_)
     ·refine Tot.dif (fun h12 => ?_) (fun h12 => ?_)
      ·refine Tot.dif (fun h13 => ?_) (fun h13 => ?_)
       ·exact Tot.inr trivial
       ·exact Tot.inr trivial
      ·exact Tot.inr trivial
     ·exact Tot.inr trivial
    ·exact Tot.inr trivial
theorem Z9c (E0 : Zh) (v18 : Int) (v25 : Bool) (h : Zt5 (.L1 E0 v18 v25)) : Tot (Z1i E0 v18 v25) (Nx Zt5 Zxl (Zxl (.L1 E0 v18 v25)) (fun r => True)) := by
 have ob30000000 := h
 unfold Z1i
 refine Tot.bif (fun h1 => ?_) (fun h1 => ?_)
 ·refine Tot.bind (Z87 E0.Sub (SzS.t ob30000000.1)) (fun x2 h3 => ?_)
  exact Tot.inr trivial
 ·refine Tot.ieq (fun h4 => ?_) (fun h4 => ?_)
  ·refine Tot.dif (fun h5 => ?_) (fun h5 => ?_)
   ·exact Tot.inr trivial
   ·exact Tot.inr trivial
  ·refine Tot.ieq (fun h6 => ?_) (fun h6 => ?_)
   ·refine Tot.dif (fun h7 => ?_) (fun h7 => ?_)
    ·exact Tot.inr trivial
    ·exact Tot.inr trivial
   ·refine Tot.ieq (fun h8 => ?_) (fun h8 => ?_)
    ·exact Tot.join (Z9b E0 v18 (v18 == 8) ob30000000) (by unfold le6 lt6; dsimp only; omega)
    ·exact Tot.join (Z9b E0 v18 (v18 == 9) ob30000000) (by unfold le6 lt6; dsimp only; omega)
theorem Z9d (E0 : Zh) (v18 : Int) (v19 : Bool) (h : Zt5 (.L0 E0 v18 v19)) : Tot (Z1j E0 v18 v19) (Nx Zt5 Zxl (Zxl (.L0 E0 v18 v19)) (fun r => True)) := by
 have ob30000000 := h
 unfold Z1j
 refine Tot.bif (fun h1 => ?_) (fun h1 => ?_)
 ·refine Tot.bind (Zbbe E0.N) (fun x2 h3 => ?_)
  exact Tot.inr trivial
 ·refine Tot.ieq (fun h4 => ?_) (fun h4 => ?_)
  ·exact Tot.join (Z9c E0 v18 (v18 == 4) ob30000000) (by unfold le6 lt6; dsimp only; omega)
  ·exact Tot.join (Z9c E0 v18 (v18 == 5) ob30000000) (by unfold le6 lt6; dsimp only; omega)
theorem Za27 (a0 : Zh) (oa0 : Zau a0) : Tot (Zao4 a0) (fun r => True) := by
 unfold Zao4
 refine Tot.fin (Inv := Zt5) (μ := Zxl) (m := (1000000, 0, 0, 0, 0, 0)) ?_ ?_
 ·unfold Zawk
  refine Tot.dif (fun h1 => ?_) (fun h1 => ?_)
  ·exact Tot.inr trivial
  ·refine Tot.dif (fun h2 => ?_) (fun h2 => ?_)
   ·exact Tot.inr trivial
   ·refine Tot.bind (Zbf2 a0 oa0) (fun x3 h4 => ?_)
    replace h4 : (Zau x3) := h4
    refine Tot.not (fun h5 => ?_) (fun h5 => ?_)
    ·exact Tot.inr trivial
    ·refine Tot.ieq (fun h6 => ?_) (fun h6 => ?_)
     ·exact Tot.join (Z9d a0 a0.Kind (a0.Kind == 2) oa0) (by unfold le6 lt6; dsimp only; omega)
     ·exact Tot.join (Z9d a0 a0.Kind (a0.Kind == 3) oa0) (by unfold le6 lt6; dsimp only; omega)
 ·intro s hs
  cases s with
  | L0 E0 v18 v19 => exact Z9d E0 v18 v19 hs
  | L1 E0 v18 v25 => exact Z9c E0 v18 v25 hs
  | L2 E0 v18 v51 => exact Z9b E0 v18 v51 hs
abbrev Z6d : Zi5 → Prop
 | .L0 v0 v1 v2 v7 v8 => ((SzL 16 SzN) v0) ∧ (SzN v2) ∧ (0 ≤ v8) ∧ (v7.length ≤ 200 * v8.toNat) ∧ (v0.length ≤ 100) ∧ (v8 ≤ v0.length)
abbrev Zoe : Zi5 → M6
 | .L0 v0 v1 v2 v7 v8 => (1, ((v0.length : Int) - v8).toNat, 1000000, 0, 0, 0)
theorem Zauc (v0 : (List (List UInt8))) (v1 : Int) (v2 : (List UInt8)) (v7 : (List UInt8)) (v8 : Int) (h : Z6d (.L0 v0 v1 v2 v7 v8)) : Tot (Zzq v0 v1 v2 v7 v8) (Nx Z6d Zoe (Zoe (.L0 v0 v1 v2 v7 v8)) (fun r => (SzT r) ∧ (r.length ≤ 20000))) := by
 obtain ⟨ov0, ov2, cv8, i0, i1, i2⟩ := h
 have lb_v0 := ov0.1
 have lb_v2 : v2.length ≤ 100 := ov2
 unfold Zzq
 have q1 : v0.length * 16 ≤ 140737488351232 := (SzL.nt ov0).1
 refine Tot.dif (fun h2 => ?_) (fun h2 => ?_)
 ·refine Tot.bind (Zaif v1 v8 (by omega)) (fun x3 h4 => ?_)
  refine Tot.bif (fun h5 => ?_) (fun h5 => ?_)
  ·refine Tot.not (fun h6 => ?_) (fun h6 => ?_)
   ·have q7 : v2.length ≤ 100 := ov2
    refine Tot.bind (Tot.okd (by first | (simp only [List.length_append, List.length_cons, List.length_nil]; omega) | omega)) (fun x8 h9 => ?_)
    refine Tot.bind (Tot.idx (by omega) (by omega)) (fun x10 h11 => ?_)
    have oh11 : SzN x10 := ov0.2 x10 h11.1
    have q12 : x10.length ≤ 100 := oh11
    refine Tot.bind (Tot.okd (by first | (simp only [List.length_append, List.length_cons, List.length_nil]; omega) | omega)) (fun x13 h14 => ?_)
    have q15 := Za3 (v8 + 1)
    have q16 := Za4 (v8 + 1)
    exact Tot.inl ⟨ov0, ov2, (by first | omega | (simp only [List.length_append, List.length_cons, List.length_nil]; omega) | trivial | decide | assumption | exact shl_ne' (by omega) (by omega) | (simp; done) | (simp; omega)), (by first | omega | (simp only [List.length_append, List.length_cons, List.length_nil]; omega) | trivial | decide | assumption | exact shl_ne' (by omega) (by omega) | (simp; done) | (simp; omega)), (by first | omega | (simp only [List.length_append, List.length_cons, List.length_nil]; omega) | trivial | decide | assumption | exact shl_ne' (by omega) (by omega) | (simp; done) | (simp; omega)), (by first | omega | (simp only [List.length_append, List.length_cons, List.length_nil]; omega) | trivial | decide | assumption | exact shl_ne' (by omega) (by omega) | (simp; done) | (simp; omega))⟩ (by unfold Zoe lt6; dsimp only; omega)
   ·refine Tot.bind (Tot.idx (by omega) (by omega)) (fun x17 h18 => ?_)
    have oh18 : SzN x17 := ov0.2 x17 h18.1
    have q19 : x17.length ≤ 100 := oh18
    refine Tot.bind (Tot.okd (by first | (simp only [List.length_append, List.length_cons, List.length_nil]; omega) | omega)) (fun x20 h21 => ?_)
    have q22 := Za3 (v8 + 1)
    have q23 := Za4 (v8 + 1)
    exact Tot.inl ⟨ov0, ov2, (by first | omega | (simp only [List.length_append, List.length_cons, List.length_nil]; omega) | trivial | decide | assumption | exact shl_ne' (by omega) (by omega) | (simp; done) | (simp; omega)), (by first | omega | (simp only [List.length_append, List.length_cons, List.length_nil]; omega) | trivial | decide | assumption | exact shl_ne' (by omega) (by omega) | (simp; done) | (simp; omega)), (by first | omega | (simp only [List.length_append, List.length_cons, List.length_nil]; omega) | trivial | decide | assumption | exact shl_ne' (by omega) (by omega) | (simp; done) | (simp; omega)), (by first | omega | (simp only [List.length_append, List.length_cons, List.length_nil]; omega) | trivial | decide | assumption | exact shl_ne' (by omega) (by omega) | (simp; done) | (simp; omega))⟩ (by unfold Zoe lt6; dsimp only; omega)
  ·have q24 := Za3 (v8 + 1)
   have q25 := Za4 (v8 + 1)
   exact Tot.inl ⟨ov0, ov2, (by omega), (by omega), (by omega), (by omega)⟩ (by unfold Zoe lt6; dsimp only; omega)
 ·exact Tot.inr (show (SzT v7) ∧ (v7.length ≤ 20000) from ⟨(by unfold SzT; first | omega | (simp only [List.length_append, List.length_cons, List.length_nil]; omega)), (by omega)⟩)
theorem Za6x (a0 : (List (List UInt8))) (a1 : Int) (a2 : (List UInt8)) (oa0 : (SzL 16 SzN) a0) (oa2 : SzN a2) (h0 : a0.length ≤ 100) : Tot (Zaaa a0 a1 a2) (fun r => (SzT r) ∧ (r.length ≤ 20000)) := by
 unfold Zaaa
 refine Tot.fin (Inv := Z6d) (μ := Zoe) (m := (1000000, 0, 0, 0, 0, 0)) ?_ ?_
 ·have lb_a0 := oa0.1
  have lb_a2 : a2.length ≤ 100 := oa2
  unfold Zabh
  exact Tot.inl ⟨oa0, oa2, (by first | omega | (simp only [List.length_append, List.length_cons, List.length_nil]; omega) | trivial | decide | assumption | exact shl_ne' (by omega) (by omega) | (simp; done) | (simp; omega)), (by first | omega | (simp only [List.length_append, List.length_cons, List.length_nil]; omega) | trivial | decide | assumption | exact shl_ne' (by omega) (by omega) | (simp; done) | (simp; omega)), (by first | omega | (simp only [List.length_append, List.length_cons, List.length_nil]; omega) | trivial | decide | assumption | exact shl_ne' (by omega) (by omega) | (simp; done) | (simp; omega)), (by first | omega | (simp only [List.length_append, List.length_cons, List.length_nil]; omega) | trivial | decide | assumption | exact shl_ne' (by omega) (by omega) | (simp; done) | (simp; omega))⟩ (by unfold Zoe lt6; dsimp only; omega)
 ·intro s hs
  cases s with
  | L0 v0 v1 v2 v7 v8 => exact Zauc v0 v1 v2 v7 v8 hs
abbrev Zaud : Zio → Prop := fun _ => True
abbrev Zayj : Zio → M6 := fun _ => (0, 0, 0, 0, 0, 0)
theorem Zy6 (a0 : Int) : Tot (Zp4 a0) (fun r => (SzT r) ∧ (r.length ≤ 20000)) := by
 unfold Zp4
 refine Tot.fin (Inv := Zaud) (μ := Zayj) (m := (1000000, 0, 0, 0, 0, 0)) ?_ ?_
 ·unfold Z2i
  refine Tot.dif (fun h1 => ?_) (fun h1 => ?_)
  ·exact Tot.inr (show (SzT ([] : List UInt8)) ∧ (([] : List UInt8).length ≤ 20000) from ⟨(SzT.nil), (by first | omega | (simp only [List.length_append, List.length_cons, List.length_nil]; omega) | trivial | decide | assumption | exact shl_ne' (by omega) (by omega) | (simp; done) | (simp; omega))⟩)
  ·refine Tot.dif (fun h2 => ?_) (fun h2 => ?_)
   ·exact Tot.inr (show (SzT ([] : List UInt8)) ∧ (([] : List UInt8).length ≤ 20000) from ⟨(SzT.nil), (by first | omega | (simp only [List.length_append, List.length_cons, List.length_nil]; omega) | trivial | decide | assumption | exact shl_ne' (by omega) (by omega) | (simp; done) | (simp; omega))⟩)
   ·refine Tot.bind (Z92) (fun x3 h4 => ?_)
    replace h4 : ((SzL 16 SzN) x3) ∧ (x3.length = 6) := h4
    have eh4_1 := h4.2
    try simp only [List.length_nil, List.length_cons, Nat.zero_add] at eh4_1
    refine Tot.bind (Za6x x3 a0 ([43] : List UInt8) h4.1 (by unfold SzN; first | omega | (simp only [List.length_append, List.length_cons, List.length_nil]; omega)) (by omega)) (fun x5 h6 => ?_)
    replace h6 : (SzT x5) ∧ (x5.length ≤ 20000) := h6
    have eh6_1 := h6.2
    try simp only [List.length_nil, List.length_cons, Nat.zero_add] at eh6_1
    exact Tot.inr (show (SzT x5) ∧ (x5.length ≤ 20000) from ⟨h6.1, (by omega)⟩)
 ·intro s
  cases s
abbrev Zbmb : Zte → Prop := fun _ => True
abbrev Zbn9 : Zte → M6 := fun _ => (0, 0, 0, 0, 0, 0)
theorem Zbmc (a0 : Int) : Tot (Zaz6 a0) (fun r => True) := by
 unfold Zaz6
 refine Tot.fin (Inv := Zbmb) (μ := Zbn9) (m := (1000000, 0, 0, 0, 0, 0)) ?_ ?_
 ·unfold Zawl
  refine Tot.dif (fun h1 => ?_) (fun h1 => ?_)
  ·exact Tot.inr trivial
  ·exact Tot.inr trivial
 ·intro s
  cases s
abbrev Zbf4 : Zok → Prop := fun _ => True
abbrev Zbj3 : Zok → M6 := fun _ => (0, 0, 0, 0, 0, 0)
theorem Z4g (a0 : Int) : Tot (Z0q a0) (fun r => (SzN r)) := by
 unfold Z0q
 refine Tot.fin (Inv := Zbf4) (μ := Zbj3) (m := (1000000, 0, 0, 0, 0, 0)) ?_ ?_
 ·unfold Zajz
  refine Tot.ieq (fun h1 => ?_) (fun h1 => ?_)
  ·exact Tot.inr (show (SzN ([97, 109, 98, 101, 114] : List UInt8)) from (by unfold SzN; first | omega | (simp only [List.length_append, List.length_cons, List.length_nil]; omega)))
  ·refine Tot.ieq (fun h2 => ?_) (fun h2 => ?_)
   ·exact Tot.inr (show (SzN ([99, 111, 98, 97, 108, 116] : List UInt8)) from (by unfold SzN; first | omega | (simp only [List.length_append, List.length_cons, List.length_nil]; omega)))
   ·refine Tot.ieq (fun h3 => ?_) (fun h3 => ?_)
    ·exact Tot.inr (show (SzN ([106, 101, 116] : List UInt8)) from (by unfold SzN; first | omega | (simp only [List.length_append, List.length_cons, List.length_nil]; omega)))
    ·refine Tot.ieq (fun h4 => ?_) (fun h4 => ?_)
     ·exact Tot.inr (show (SzN ([114, 117, 98, 121] : List UInt8)) from (by unfold SzN; first | omega | (simp only [List.length_append, List.length_cons, List.length_nil]; omega)))
     ·refine Tot.ieq (fun h5 => ?_) (fun h5 => ?_)
      ·exact Tot.inr (show (SzN ([101, 109, 101, 114, 97, 108, 100] : List UInt8)) from (by unfold SzN; first | omega | (simp only [List.length_append, List.length_cons, List.length_nil]; omega)))
      ·exact Tot.inr (show (SzN ([] : List UInt8)) from (SzN.nil))
 ·intro s
  cases s
abbrev Zad9 : Zlk → Prop
 | .L0 v0 v3 v4 => (0 ≤ v4) ∧ (v3.length ≤ 200 * v4.toNat) ∧ (v4 ≤ 5)
abbrev Zq0 : Zlk → M6
 | .L0 v0 v3 v4 => (1, (5 - v4).toNat, 1000000, 0, 0, 0)
theorem Za28 (v0 : Int) (v3 : (List UInt8)) (v4 : Int) (h : Zad9 (.L0 v0 v3 v4)) : Tot (Z6k v0 v3 v4) (Nx Zad9 Zq0 (Zq0 (.L0 v0 v3 v4)) (fun r => (SzT r))) := by
 obtain ⟨cv4, i0, i1⟩ := h
 unfold Z6k
 refine Tot.dif (fun h1 => ?_) (fun h1 => ?_)
 ·refine Tot.bind (Tot.okd (by first | omega | exact shl_ne' (by omega) (by omega) | decide)) (fun x2 h3 => ?_)
  refine Tot.bind (Tot.okd (by first | omega | exact shl_ne' (by omega) (by omega) | decide)) (fun x4 h5 => ?_)
  refine Tot.ieq (fun h6 => ?_) (fun h6 => ?_)
  ·refine Tot.not (fun h7 => ?_) (fun h7 => ?_)
   ·refine Tot.bind (Tot.okd (by first | (simp only [List.length_append, List.length_cons, List.length_nil]; omega) | omega)) (fun x8 h9 => ?_)
    refine Tot.bind (Z4g v4) (fun x10 h11 => ?_)
    replace h11 : (SzN x10) := h11
    have q12 : x10.length ≤ 100 := h11
    refine Tot.bind (Tot.okd (by first | (simp only [List.length_append, List.length_cons, List.length_nil]; omega) | omega)) (fun x13 h14 => ?_)
    have q15 := Za3 (v4 + 1)
    have q16 := Za4 (v4 + 1)
    exact Tot.inl ⟨(by first | omega | (simp only [List.length_append, List.length_cons, List.length_nil]; omega) | trivial | decide | assumption | exact shl_ne' (by omega) (by omega) | (simp; done) | (simp; omega)), (by first | omega | (simp only [List.length_append, List.length_cons, List.length_nil]; omega) | trivial | decide | assumption | exact shl_ne' (by omega) (by omega) | (simp; done) | (simp; omega)), (by first | omega | (simp only [List.length_append, List.length_cons, List.length_nil]; omega) | trivial | decide | assumption | exact shl_ne' (by omega) (by omega) | (simp; done) | (simp; omega))⟩ (by unfold Zq0 lt6; dsimp only; omega)
   ·refine Tot.bind (Z4g v4) (fun x17 h18 => ?_)
    replace h18 : (SzN x17) := h18
    have q19 : x17.length ≤ 100 := h18
    refine Tot.bind (Tot.okd (by first | (simp only [List.length_append, List.length_cons, List.length_nil]; omega) | omega)) (fun x20 h21 => ?_)
    have q22 := Za3 (v4 + 1)
    have q23 := Za4 (v4 + 1)
    exact Tot.inl ⟨(by first | omega | (simp only [List.length_append, List.length_cons, List.length_nil]; omega) | trivial | decide | assumption | exact shl_ne' (by omega) (by omega) | (simp; done) | (simp; omega)), (by first | omega | (simp only [List.length_append, List.length_cons, List.length_nil]; omega) | trivial | decide | assumption | exact shl_ne' (by omega) (by omega) | (simp; done) | (simp; omega)), (by first | omega | (simp only [List.length_append, List.length_cons, List.length_nil]; omega) | trivial | decide | assumption | exact shl_ne' (by omega) (by omega) | (simp; done) | (simp; omega))⟩ (by unfold Zq0 lt6; dsimp only; omega)
  ·have q24 := Za3 (v4 + 1)
   have q25 := Za4 (v4 + 1)
   exact Tot.inl ⟨(by omega), (by omega), (by omega)⟩ (by unfold Zq0 lt6; dsimp only; omega)
 ·exact Tot.inr (show (SzT v3) from (by unfold SzT; first | omega | (simp only [List.length_append, List.length_cons, List.length_nil]; omega)))
theorem Zar1 (a0 : Int) : Tot (Zabi a0) (fun r => (SzT r)) := by
 unfold Zabi
 refine Tot.fin (Inv := Zad9) (μ := Zq0) (m := (1000000, 0, 0, 0, 0, 0)) ?_ ?_
 ·unfold Zaj0
  refine Tot.bind (Zbmc a0) (fun x1 h2 => ?_)
  refine Tot.not (fun h3 => ?_) (fun h3 => ?_)
  ·exact Tot.inr (show (SzT ([] : List UInt8)) from (SzT.nil))
  ·refine Tot.ieq (fun h4 => ?_) (fun h4 => ?_)
   ·exact Tot.inr (show (SzT ([110, 111, 110, 101] : List UInt8)) from (by unfold SzT; first | omega | (simp only [List.length_append, List.length_cons, List.length_nil]; omega)))
   ·exact Tot.inl ⟨(by first | omega | (simp only [List.length_append, List.length_cons, List.length_nil]; omega) | trivial | decide | assumption | exact shl_ne' (by omega) (by omega) | (simp; done) | (simp; omega)), (by first | omega | (simp only [List.length_append, List.length_cons, List.length_nil]; omega) | trivial | decide | assumption | exact shl_ne' (by omega) (by omega) | (simp; done) | (simp; omega)), (by first | omega | (simp only [List.length_append, List.length_cons, List.length_nil]; omega) | trivial | decide | assumption | exact shl_ne' (by omega) (by omega) | (simp; done) | (simp; omega))⟩ (by unfold Zq0 lt6; dsimp only; omega)
 ·intro s hs
  cases s with
  | L0 v0 v3 v4 => exact Za28 v0 v3 v4 hs
abbrev Zbbf : Zm7 → Prop := fun _ => True
abbrev Zbf5 : Zm7 → M6 := fun _ => (0, 0, 0, 0, 0, 0)
theorem Zbbg : Tot (Z7p) (fun r => ((SzL 16 SzN) r) ∧ (r.length = 17)) := by
 unfold Z7p
 refine Tot.fin (Inv := Zbbf) (μ := Zbf5) (m := (1000000, 0, 0, 0, 0, 0)) ?_ ?_
 ·unfold Zagm
  have q1 : (SzL 16 SzN) [([102, 108, 121, 105, 110, 103] : List UInt8), ([114, 101, 97, 99, 104] : List UInt8), ([104, 97, 115, 116, 101] : List UInt8), ([118, 105, 103, 105, 108, 97, 110, 116] : List UInt8), ([116, 114, 97, 109, 112, 108, 101] : List UInt8), ([102, 105, 114, 115, 116, 45, 115, 116, 114, 105, 107, 101] : List UInt8), ([100, 111, 117, 98, 108, 101, 45, 115, 116, 114, 105, 107, 101] : List UInt8), ([100, 101, 97, 100, 108, 121] : List UInt8), ([108, 105, 102, 101, 108, 105, 110, 107] : List UInt8), ([109, 101, 110, 97, 99, 101] : List UInt8), ([100, 101, 102, 101, 110, 100, 101, 114] : List UInt8), ([119, 97, 114, 100, 101, 100] : List UInt8), ([115, 116, 117, 114, 100, 121] : List UInt8), ([101, 108, 117, 115, 105, 118, 101] : List UInt8), ([110, 111, 45, 97, 116, 116, 97, 99, 107] : List UInt8), ([110, 111, 45, 98, 108, 111, 99, 107] : List UInt8), ([109, 117, 115, 116, 45, 97, 116, 116, 97, 99, 107] : List UInt8)] := ⟨by simp only [List.length_cons, List.length_nil]; omega, (mem_cons' (by unfold SzN; first | omega | (simp only [List.length_append, List.length_cons, List.length_nil]; omega)) (mem_cons' (by unfold SzN; first | omega | (simp only [List.length_append, List.length_cons, List.length_nil]; omega)) (mem_cons' (by unfold SzN; first | omega | (simp only [List.length_append, List.length_cons, List.length_nil]; omega)) (mem_cons' (by unfold SzN; first | omega | (simp only [List.length_append, List.length_cons, List.length_nil]; omega)) (mem_cons' (by unfold SzN; first | omega | (simp only [List.length_append, List.length_cons, List.length_nil]; omega)) (mem_cons' (by unfold SzN; first | omega | (simp only [List.length_append, List.length_cons, List.length_nil]; omega)) (mem_cons' (by unfold SzN; first | omega | (simp only [List.length_append, List.length_cons, List.length_nil]; omega)) (mem_cons' (by unfold SzN; first | omega | (simp only [List.length_append, List.length_cons, List.length_nil]; omega)) (mem_cons' (by unfold SzN; first | omega | (simp only [List.length_append, List.length_cons, List.length_nil]; omega)) (mem_cons' (by unfold SzN; first | omega | (simp only [List.length_append, List.length_cons, List.length_nil]; omega)) (mem_cons' (by unfold SzN; first | omega | (simp only [List.length_append, List.length_cons, List.length_nil]; omega)) (mem_cons' (by unfold SzN; first | omega | (simp only [List.length_append, List.length_cons, List.length_nil]; omega)) (mem_cons' (by unfold SzN; first | omega | (simp only [List.length_append, List.length_cons, List.length_nil]; omega)) (mem_cons' (by unfold SzN; first | omega | (simp only [List.length_append, List.length_cons, List.length_nil]; omega)) (mem_cons' (by unfold SzN; first | omega | (simp only [List.length_append, List.length_cons, List.length_nil]; omega)) (mem_cons' (by unfold SzN; first | omega | (simp only [List.length_append, List.length_cons, List.length_nil]; omega)) (mem_cons' (by unfold SzN; first | omega | (simp only [List.length_append, List.length_cons, List.length_nil]; omega)) (fun _ h => by cases h))))))))))))))))))⟩
  have lq1 : [([102, 108, 121, 105, 110, 103] : List UInt8), ([114, 101, 97, 99, 104] : List UInt8), ([104, 97, 115, 116, 101] : List UInt8), ([118, 105, 103, 105, 108, 97, 110, 116] : List UInt8), ([116, 114, 97, 109, 112, 108, 101] : List UInt8), ([102, 105, 114, 115, 116, 45, 115, 116, 114, 105, 107, 101] : List UInt8), ([100, 111, 117, 98, 108, 101, 45, 115, 116, 114, 105, 107, 101] : List UInt8), ([100, 101, 97, 100, 108, 121] : List UInt8), ([108, 105, 102, 101, 108, 105, 110, 107] : List UInt8), ([109, 101, 110, 97, 99, 101] : List UInt8), ([100, 101, 102, 101, 110, 100, 101, 114] : List UInt8), ([119, 97, 114, 100, 101, 100] : List UInt8), ([115, 116, 117, 114, 100, 121] : List UInt8), ([101, 108, 117, 115, 105, 118, 101] : List UInt8), ([110, 111, 45, 97, 116, 116, 97, 99, 107] : List UInt8), ([110, 111, 45, 98, 108, 111, 99, 107] : List UInt8), ([109, 117, 115, 116, 45, 97, 116, 116, 97, 99, 107] : List UInt8)].length = 17 := rfl
  exact Tot.inr (show ((SzL 16 SzN) [([102, 108, 121, 105, 110, 103] : List UInt8), ([114, 101, 97, 99, 104] : List UInt8), ([104, 97, 115, 116, 101] : List UInt8), ([118, 105, 103, 105, 108, 97, 110, 116] : List UInt8), ([116, 114, 97, 109, 112, 108, 101] : List UInt8), ([102, 105, 114, 115, 116, 45, 115, 116, 114, 105, 107, 101] : List UInt8), ([100, 111, 117, 98, 108, 101, 45, 115, 116, 114, 105, 107, 101] : List UInt8), ([100, 101, 97, 100, 108, 121] : List UInt8), ([108, 105, 102, 101, 108, 105, 110, 107] : List UInt8), ([109, 101, 110, 97, 99, 101] : List UInt8), ([100, 101, 102, 101, 110, 100, 101, 114] : List UInt8), ([119, 97, 114, 100, 101, 100] : List UInt8), ([115, 116, 117, 114, 100, 121] : List UInt8), ([101, 108, 117, 115, 105, 118, 101] : List UInt8), ([110, 111, 45, 97, 116, 116, 97, 99, 107] : List UInt8), ([110, 111, 45, 98, 108, 111, 99, 107] : List UInt8), ([109, 117, 115, 116, 45, 97, 116, 116, 97, 99, 107] : List UInt8)]) ∧ ([([102, 108, 121, 105, 110, 103] : List UInt8), ([114, 101, 97, 99, 104] : List UInt8), ([104, 97, 115, 116, 101] : List UInt8), ([118, 105, 103, 105, 108, 97, 110, 116] : List UInt8), ([116, 114, 97, 109, 112, 108, 101] : List UInt8), ([102, 105, 114, 115, 116, 45, 115, 116, 114, 105, 107, 101] : List UInt8), ([100, 111, 117, 98, 108, 101, 45, 115, 116, 114, 105, 107, 101] : List UInt8), ([100, 101, 97, 100, 108, 121] : List UInt8), ([108, 105, 102, 101, 108, 105, 110, 107] : List UInt8), ([109, 101, 110, 97, 99, 101] : List UInt8), ([100, 101, 102, 101, 110, 100, 101, 114] : List UInt8), ([119, 97, 114, 100, 101, 100] : List UInt8), ([115, 116, 117, 114, 100, 121] : List UInt8), ([101, 108, 117, 115, 105, 118, 101] : List UInt8), ([110, 111, 45, 97, 116, 116, 97, 99, 107] : List UInt8), ([110, 111, 45, 98, 108, 111, 99, 107] : List UInt8), ([109, 117, 115, 116, 45, 97, 116, 116, 97, 99, 107] : List UInt8)].length = 17) from ⟨q1, (by omega)⟩)
 ·intro s
  cases s
abbrev Zbf6 : Zol → Prop := fun _ => True
abbrev Zbj4 : Zol → M6 := fun _ => (0, 0, 0, 0, 0, 0)
theorem Zaea (a0 : Int) : Tot (Z49 a0) (fun r => (SzN r)) := by
 unfold Z49
 refine Tot.fin (Inv := Zbf6) (μ := Zbj4) (m := (1000000, 0, 0, 0, 0, 0)) ?_ ?_
 ·unfold Zaj1
  refine Tot.dif (fun h1 => ?_) (fun h1 => ?_)
  ·exact Tot.inr (show (SzN ([] : List UInt8)) from (SzN.nil))
  ·refine Tot.dif (fun h2 => ?_) (fun h2 => ?_)
   ·exact Tot.inr (show (SzN ([] : List UInt8)) from (SzN.nil))
   ·refine Tot.bind (Zbbg) (fun x3 h4 => ?_)
    replace h4 : ((SzL 16 SzN) x3) ∧ (x3.length = 17) := h4
    have eh4_1 := h4.2
    try simp only [List.length_nil, List.length_cons, Nat.zero_add] at eh4_1
    refine Tot.bind (Tot.idx (by omega) (by omega)) (fun x5 h6 => ?_)
    have oh6 : SzN x5 := h4.1.2 x5 h6.1
    exact Tot.inr (show (SzN x5) from oh6)
 ·intro s
  cases s
abbrev Zaeb : Zll → Prop
 | .L0 v0 v3 v4 => (0 ≤ v4) ∧ (v3.length ≤ 200 * v4.toNat) ∧ (v4 ≤ 17)
abbrev Zq1 : Zll → M6
 | .L0 v0 v3 v4 => (1, (17 - v4).toNat, 1000000, 0, 0, 0)
theorem Za29 (v0 : Int) (v3 : (List UInt8)) (v4 : Int) (h : Zaeb (.L0 v0 v3 v4)) : Tot (Z6l v0 v3 v4) (Nx Zaeb Zq1 (Zq1 (.L0 v0 v3 v4)) (fun r => (SzT r))) := by
 obtain ⟨cv4, i0, i1⟩ := h
 unfold Z6l
 refine Tot.dif (fun h1 => ?_) (fun h1 => ?_)
 ·refine Tot.ieq (fun h2 => ?_) (fun h2 => ?_)
  ·refine Tot.not (fun h3 => ?_) (fun h3 => ?_)
   ·refine Tot.bind (Tot.okd (by first | (simp only [List.length_append, List.length_cons, List.length_nil]; omega) | omega)) (fun x4 h5 => ?_)
    refine Tot.bind (Zaea v4) (fun x6 h7 => ?_)
    replace h7 : (SzN x6) := h7
    have q8 : x6.length ≤ 100 := h7
    refine Tot.bind (Tot.okd (by first | (simp only [List.length_append, List.length_cons, List.length_nil]; omega) | omega)) (fun x9 h10 => ?_)
    have q11 := Za3 (v4 + 1)
    have q12 := Za4 (v4 + 1)
    exact Tot.inl ⟨(by first | omega | (simp only [List.length_append, List.length_cons, List.length_nil]; omega) | trivial | decide | assumption | exact shl_ne' (by omega) (by omega) | (simp; done) | (simp; omega)), (by first | omega | (simp only [List.length_append, List.length_cons, List.length_nil]; omega) | trivial | decide | assumption | exact shl_ne' (by omega) (by omega) | (simp; done) | (simp; omega)), (by first | omega | (simp only [List.length_append, List.length_cons, List.length_nil]; omega) | trivial | decide | assumption | exact shl_ne' (by omega) (by omega) | (simp; done) | (simp; omega))⟩ (by unfold Zq1 lt6; dsimp only; omega)
   ·refine Tot.bind (Zaea v4) (fun x13 h14 => ?_)
    replace h14 : (SzN x13) := h14
    have q15 : x13.length ≤ 100 := h14
    refine Tot.bind (Tot.okd (by first | (simp only [List.length_append, List.length_cons, List.length_nil]; omega) | omega)) (fun x16 h17 => ?_)
    have q18 := Za3 (v4 + 1)
    have q19 := Za4 (v4 + 1)
    exact Tot.inl ⟨(by first | omega | (simp only [List.length_append, List.length_cons, List.length_nil]; omega) | trivial | decide | assumption | exact shl_ne' (by omega) (by omega) | (simp; done) | (simp; omega)), (by first | omega | (simp only [List.length_append, List.length_cons, List.length_nil]; omega) | trivial | decide | assumption | exact shl_ne' (by omega) (by omega) | (simp; done) | (simp; omega)), (by first | omega | (simp only [List.length_append, List.length_cons, List.length_nil]; omega) | trivial | decide | assumption | exact shl_ne' (by omega) (by omega) | (simp; done) | (simp; omega))⟩ (by unfold Zq1 lt6; dsimp only; omega)
  ·have q20 := Za3 (v4 + 1)
   have q21 := Za4 (v4 + 1)
   exact Tot.inl ⟨(by omega), (by omega), (by omega)⟩ (by unfold Zq1 lt6; dsimp only; omega)
 ·refine Tot.bif (fun h22 => ?_) (fun h22 => ?_)
  ·exact Tot.inr (show (SzT ([110, 111, 110, 101] : List UInt8)) from (by unfold SzT; first | omega | (simp only [List.length_append, List.length_cons, List.length_nil]; omega)))
  ·exact Tot.inr (show (SzT v3) from (by unfold SzT; first | omega | (simp only [List.length_append, List.length_cons, List.length_nil]; omega)))
theorem Zar2 (a0 : Int) : Tot (Zabj a0) (fun r => (SzT r)) := by
 unfold Zabj
 refine Tot.fin (Inv := Zaeb) (μ := Zq1) (m := (1000000, 0, 0, 0, 0, 0)) ?_ ?_
 ·unfold Zaj2
  refine Tot.bind (Za24 a0) (fun x1 h2 => ?_)
  refine Tot.not (fun h3 => ?_) (fun h3 => ?_)
  ·exact Tot.inr (show (SzT ([] : List UInt8)) from (SzT.nil))
  ·exact Tot.inl ⟨(by first | omega | (simp only [List.length_append, List.length_cons, List.length_nil]; omega) | trivial | decide | assumption | exact shl_ne' (by omega) (by omega) | (simp; done) | (simp; omega)), (by first | omega | (simp only [List.length_append, List.length_cons, List.length_nil]; omega) | trivial | decide | assumption | exact shl_ne' (by omega) (by omega) | (simp; done) | (simp; omega)), (by first | omega | (simp only [List.length_append, List.length_cons, List.length_nil]; omega) | trivial | decide | assumption | exact shl_ne' (by omega) (by omega) | (simp; done) | (simp; omega))⟩ (by unfold Zq1 lt6; dsimp only; omega)
 ·intro s hs
  cases s with
  | L0 v0 v3 v4 => exact Za29 v0 v3 v4 hs
abbrev Zaue : Zip → Prop := fun _ => True
abbrev Zayk : Zip → M6 := fun _ => (0, 0, 0, 0, 0, 0)
theorem Zauf : Tot (Zuh) (fun r => ((SzL 16 SzN) r) ∧ (r.length = 6)) := by
 unfold Zuh
 refine Tot.fin (Inv := Zaue) (μ := Zayk) (m := (1000000, 0, 0, 0, 0, 0)) ?_ ?_
 ·unfold Z2j
  have q1 : (SzL 16 SzN) [([] : List UInt8), ([105, 110, 45, 104, 97, 110, 100] : List UInt8), ([105, 110, 45, 108, 105, 98, 114, 97, 114, 121] : List UInt8), ([105, 110, 45, 103, 114, 97, 118, 101, 121, 97, 114, 100] : List UInt8), ([105, 110, 45, 101, 120, 105, 108, 101] : List UInt8), ([111, 110, 45, 115, 116, 97, 99, 107] : List UInt8)] := ⟨by simp only [List.length_cons, List.length_nil]; omega, (mem_cons' (SzN.nil) (mem_cons' (by unfold SzN; first | omega | (simp only [List.length_append, List.length_cons, List.length_nil]; omega)) (mem_cons' (by unfold SzN; first | omega | (simp only [List.length_append, List.length_cons, List.length_nil]; omega)) (mem_cons' (by unfold SzN; first | omega | (simp only [List.length_append, List.length_cons, List.length_nil]; omega)) (mem_cons' (by unfold SzN; first | omega | (simp only [List.length_append, List.length_cons, List.length_nil]; omega)) (mem_cons' (by unfold SzN; first | omega | (simp only [List.length_append, List.length_cons, List.length_nil]; omega)) (fun _ h => by cases h)))))))⟩
  have lq1 : [([] : List UInt8), ([105, 110, 45, 104, 97, 110, 100] : List UInt8), ([105, 110, 45, 108, 105, 98, 114, 97, 114, 121] : List UInt8), ([105, 110, 45, 103, 114, 97, 118, 101, 121, 97, 114, 100] : List UInt8), ([105, 110, 45, 101, 120, 105, 108, 101] : List UInt8), ([111, 110, 45, 115, 116, 97, 99, 107] : List UInt8)].length = 6 := rfl
  exact Tot.inr (show ((SzL 16 SzN) [([] : List UInt8), ([105, 110, 45, 104, 97, 110, 100] : List UInt8), ([105, 110, 45, 108, 105, 98, 114, 97, 114, 121] : List UInt8), ([105, 110, 45, 103, 114, 97, 118, 101, 121, 97, 114, 100] : List UInt8), ([105, 110, 45, 101, 120, 105, 108, 101] : List UInt8), ([111, 110, 45, 115, 116, 97, 99, 107] : List UInt8)]) ∧ ([([] : List UInt8), ([105, 110, 45, 104, 97, 110, 100] : List UInt8), ([105, 110, 45, 108, 105, 98, 114, 97, 114, 121] : List UInt8), ([105, 110, 45, 103, 114, 97, 118, 101, 121, 97, 114, 100] : List UInt8), ([105, 110, 45, 101, 120, 105, 108, 101] : List UInt8), ([111, 110, 45, 115, 116, 97, 99, 107] : List UInt8)].length = 6) from ⟨q1, (by omega)⟩)
 ·intro s
  cases s
abbrev Zayl : Zjj → Prop := fun _ => True
abbrev Za3a : Zjj → M6 := fun _ => (0, 0, 0, 0, 0, 0)
theorem Zaym : Tot (Zwj) (fun r => ((SzL 16 SzN) r) ∧ (r.length = 3)) := by
 unfold Zwj
 refine Tot.fin (Inv := Zayl) (μ := Za3a) (m := (1000000, 0, 0, 0, 0, 0)) ?_ ?_
 ·unfold Z5a
  have q1 : (SzL 16 SzN) [([] : List UInt8), ([121, 111, 117, 114, 115] : List UInt8), ([116, 104, 101, 105, 114, 115] : List UInt8)] := ⟨by simp only [List.length_cons, List.length_nil]; omega, (mem_cons' (SzN.nil) (mem_cons' (by unfold SzN; first | omega | (simp only [List.length_append, List.length_cons, List.length_nil]; omega)) (mem_cons' (by unfold SzN; first | omega | (simp only [List.length_append, List.length_cons, List.length_nil]; omega)) (fun _ h => by cases h))))⟩
  have lq1 : [([] : List UInt8), ([121, 111, 117, 114, 115] : List UInt8), ([116, 104, 101, 105, 114, 115] : List UInt8)].length = 3 := rfl
  exact Tot.inr (show ((SzL 16 SzN) [([] : List UInt8), ([121, 111, 117, 114, 115] : List UInt8), ([116, 104, 101, 105, 114, 115] : List UInt8)]) ∧ ([([] : List UInt8), ([121, 111, 117, 114, 115] : List UInt8), ([116, 104, 101, 105, 114, 115] : List UInt8)].length = 3) from ⟨q1, (by omega)⟩)
 ·intro s
  cases s
abbrev Zaug : Ziq → Prop := fun _ => True
abbrev Zayn : Ziq → M6 := fun _ => (0, 0, 0, 0, 0, 0)
theorem Zauh : Tot (Zui) (fun r => ((SzL 16 SzN) r) ∧ (r.length = 3)) := by
 unfold Zui
 refine Tot.fin (Inv := Zaug) (μ := Zayn) (m := (1000000, 0, 0, 0, 0, 0)) ?_ ?_
 ·unfold Z2k
  have q1 : (SzL 16 SzN) [([] : List UInt8), ([115, 101, 108, 102] : List UInt8), ([111, 116, 104, 101, 114] : List UInt8)] := ⟨by simp only [List.length_cons, List.length_nil]; omega, (mem_cons' (SzN.nil) (mem_cons' (by unfold SzN; first | omega | (simp only [List.length_append, List.length_cons, List.length_nil]; omega)) (mem_cons' (by unfold SzN; first | omega | (simp only [List.length_append, List.length_cons, List.length_nil]; omega)) (fun _ h => by cases h))))⟩
  have lq1 : [([] : List UInt8), ([115, 101, 108, 102] : List UInt8), ([111, 116, 104, 101, 114] : List UInt8)].length = 3 := rfl
  exact Tot.inr (show ((SzL 16 SzN) [([] : List UInt8), ([115, 101, 108, 102] : List UInt8), ([111, 116, 104, 101, 114] : List UInt8)]) ∧ ([([] : List UInt8), ([115, 101, 108, 102] : List UInt8), ([111, 116, 104, 101, 114] : List UInt8)].length = 3) from ⟨q1, (by omega)⟩)
 ·intro s
  cases s
abbrev Zayo : Zjk → Prop := fun _ => True
abbrev Za3b : Zjk → M6 := fun _ => (0, 0, 0, 0, 0, 0)
theorem Zayp : Tot (Zwk) (fun r => ((SzL 16 SzN) r) ∧ (r.length = 3)) := by
 unfold Zwk
 refine Tot.fin (Inv := Zayo) (μ := Za3b) (m := (1000000, 0, 0, 0, 0, 0)) ?_ ?_
 ·unfold Z5b
  have q1 : (SzL 16 SzN) [([] : List UInt8), ([116, 97, 112, 112, 101, 100] : List UInt8), ([117, 110, 116, 97, 112, 112, 101, 100] : List UInt8)] := ⟨by simp only [List.length_cons, List.length_nil]; omega, (mem_cons' (SzN.nil) (mem_cons' (by unfold SzN; first | omega | (simp only [List.length_append, List.length_cons, List.length_nil]; omega)) (mem_cons' (by unfold SzN; first | omega | (simp only [List.length_append, List.length_cons, List.length_nil]; omega)) (fun _ h => by cases h))))⟩
  have lq1 : [([] : List UInt8), ([116, 97, 112, 112, 101, 100] : List UInt8), ([117, 110, 116, 97, 112, 112, 101, 100] : List UInt8)].length = 3 := rfl
  exact Tot.inr (show ((SzL 16 SzN) [([] : List UInt8), ([116, 97, 112, 112, 101, 100] : List UInt8), ([117, 110, 116, 97, 112, 112, 101, 100] : List UInt8)]) ∧ ([([] : List UInt8), ([116, 97, 112, 112, 101, 100] : List UInt8), ([117, 110, 116, 97, 112, 112, 101, 100] : List UInt8)].length = 3) from ⟨q1, (by omega)⟩)
 ·intro s
  cases s
abbrev Zaig : Znp → Prop
 | .L0 v0 v1 v5 => (0 ≤ v5) ∧ (v1 ≤ 100)
abbrev Z4h : Znp → M6
 | .L0 v0 v1 v5 => (1, (v1 - v5).toNat, 1000000, 0, 0, 0)
theorem Za6y (v0 : Int) (v1 : Int) (v5 : Int) (h : Zaig (.L0 v0 v1 v5)) : Tot (Zaab v0 v1 v5) (Nx Zaig Z4h (Z4h (.L0 v0 v1 v5)) (fun r => True)) := by
 obtain ⟨cv5, i0⟩ := h
 unfold Zaab
 refine Tot.dif (fun h1 => ?_) (fun h1 => ?_)
 ·have q2 := Za3 (v5 + 1)
  have q3 := Za4 (v5 + 1)
  exact Tot.inl ⟨(by omega), (by omega)⟩ (by unfold Z4h lt6; dsimp only; omega)
 ·exact Tot.inr trivial
theorem Zzh (a0 : Int) (a1 : Int) (h0 : a1 ≤ 100) : Tot (Z1k a0 a1) (fun r => True) := by
 unfold Z1k
 refine Tot.fin (Inv := Zaig) (μ := Z4h) (m := (1000000, 0, 0, 0, 0, 0)) ?_ ?_
 ·unfold Zao8
  exact Tot.inl ⟨(by omega), (by omega)⟩ (by unfold Z4h lt6; dsimp only; omega)
 ·intro s hs
  cases s with
  | L0 v0 v1 v5 => exact Za6y v0 v1 v5 hs
abbrev Z05 : Zg3 → Prop
 | .L0 v0 v3 v4 => (0 ≤ v4) ∧ (v0 ≤ 100)
abbrev Zqn : Zg3 → M6
 | .L0 v0 v3 v4 => (1, (v0 - v4).toNat, 1000000, 0, 0, 0)
theorem Zaok (v0 : Int) (v3 : Int) (v4 : Int) (h : Z05 (.L0 v0 v3 v4)) : Tot (Zvq v0 v3 v4) (Nx Z05 Zqn (Zqn (.L0 v0 v3 v4)) (fun r => (SzT r) ∧ (r.length ≤ 20000))) := by
 obtain ⟨cv4, i0⟩ := h
 unfold Zvq
 refine Tot.dif (fun h1 => ?_) (fun h1 => ?_)
 ·have q2 := Za3 (v3 * 2)
  have q3 := Za4 (v3 * 2)
  have q4 := Za3 (v4 + 1)
  have q5 := Za4 (v4 + 1)
  exact Tot.inl ⟨(by omega), (by omega)⟩ (by unfold Zqn lt6; dsimp only; omega)
 ·refine Tot.bind (Zy6 v3) (fun x6 h7 => ?_)
  replace h7 : (SzT x6) ∧ (x6.length ≤ 20000) := h7
  have eh7_1 := h7.2
  try simp only [List.length_nil, List.length_cons, Nat.zero_add] at eh7_1
  exact Tot.inr (show (SzT x6) ∧ (x6.length ≤ 20000) from ⟨h7.1, (by omega)⟩)
theorem Zaec (a0 : Int) (h0 : a0 ≤ 100) : Tot (Zwl a0) (fun r => (SzT r) ∧ (r.length ≤ 20000)) := by
 unfold Zwl
 refine Tot.fin (Inv := Z05) (μ := Zqn) (m := (1000000, 0, 0, 0, 0, 0)) ?_ ?_
 ·unfold Z5c
  exact Tot.inl ⟨(by omega), (by omega)⟩ (by unfold Zqn lt6; dsimp only; omega)
 ·intro s hs
  cases s with
  | L0 v0 v3 v4 => exact Zaok v0 v3 v4 hs
abbrev Zbbh : Zm8 → Prop := fun _ => True
abbrev Zbf7 : Zm8 → M6 := fun _ => (0, 0, 0, 0, 0, 0)
theorem Zbbi : Tot (Z7q) (fun r => ((SzL 16 SzN) r) ∧ (r.length = 4)) := by
 unfold Z7q
 refine Tot.fin (Inv := Zbbh) (μ := Zbf7) (m := (1000000, 0, 0, 0, 0, 0)) ?_ ?_
 ·unfold Zagn
  have q1 : (SzL 16 SzN) [([] : List UInt8), ([62, 61] : List UInt8), ([60, 61] : List UInt8), ([61] : List UInt8)] := ⟨by simp only [List.length_cons, List.length_nil]; omega, (mem_cons' (SzN.nil) (mem_cons' (by unfold SzN; first | omega | (simp only [List.length_append, List.length_cons, List.length_nil]; omega)) (mem_cons' (by unfold SzN; first | omega | (simp only [List.length_append, List.length_cons, List.length_nil]; omega)) (mem_cons' (by unfold SzN; first | omega | (simp only [List.length_append, List.length_cons, List.length_nil]; omega)) (fun _ h => by cases h)))))⟩
  have lq1 : [([] : List UInt8), ([62, 61] : List UInt8), ([60, 61] : List UInt8), ([61] : List UInt8)].length = 4 := rfl
  exact Tot.inr (show ((SzL 16 SzN) [([] : List UInt8), ([62, 61] : List UInt8), ([60, 61] : List UInt8), ([61] : List UInt8)]) ∧ ([([] : List UInt8), ([62, 61] : List UInt8), ([60, 61] : List UInt8), ([61] : List UInt8)].length = 4) from ⟨q1, (by omega)⟩)
 ·intro s
  cases s
theorem Zbpc {n : Int} (h0 : 0 ≤ n) (h1 : n < 18446744073709551616) : quoI .u64 n 10 = n / 10 := by
 unfold quoI
 rw [Int.tdiv_eq_ediv_of_nonneg h0]
 have h2 : 0 ≤ n / 10 := by omega
 have h3 : n / 10 < 18446744073709551616 := by omega
 simp only [IntKind.wrap, IntKind.bits, IntKind.signed, Bool.false_and, Bool.false_eq_true, if_false]
 exact Int.emod_eq_of_lt h2 h3
theorem Zagb : ∀ (k : Nat) (n : Int) (s : List UInt8), k ≤ 20 → 0 ≤ n → n < 10 ^ k → n < 18446744073709551616 → s.length + k ≤ 40 → Tot (runO Z2l (.L0 n s)) fun r => SzN r ∧ r.length ≤ 40
 | 0, n, s, _, h0, h1, _, hs => by
  have : n = 0 := by omega
  subst this
  refine Tot.stop (r := s) ?_ ⟨show s.length ≤ 100 by omega, by omega⟩
  show Zmj _ _ = _
  unfold Zmj
  rfl
 | k + 1, n, s, hk, h0, h1, h2, hs => by
  by_cases hn : n > 0
  ·obtain ⟨d, hd, hl⟩ := Tot.str (xs := [IntKind.wrap .u8 (IntKind.wrap .u64 (48 + (Int.tmod n 10)))]) (by simp) (by intro m hm; simp only [List.mem_cons, List.not_mem_nil, or_false] at hm; subst hm; exact Zbnq _)
   simp only [List.length_cons, List.length_nil] at hl
   have e : Z2l (.L0 n s) = some (.inl (.L0 (n / 10) (d ++ s))) := by
    show Zmj _ _ = _
    unfold Zmj
    rw [decide_eq_true hn, cond_true, hd, Option.bind_some, decide_eq_true (show d.length + s.length ≤ 9223372036854775807 by omega), Zbpc h0 h2]
    rfl
   obtain ⟨r, hr, hp⟩ := Zagb k (n / 10) (d ++ s) (by omega) (by omega) (by
    rw [Int.pow_succ] at h1
    have : n / 10 < 10 ^ k := Int.ediv_lt_of_lt_mul (by decide) h1
    exact this) (by omega) (by rw [List.length_append]; omega)
   exact ⟨r, by rw [Zli e]; exact hr, hp⟩
  ·refine Tot.stop (r := s) ?_ ⟨show s.length ≤ 100 by omega, by omega⟩
   show Zmj _ _ = _
   unfold Zmj
   rw [decide_eq_false hn]; rfl
theorem Zajj (a0 : Int) (h0 : 0 ≤ a0) (h1 : a0 < 18446744073709551616) : Tot (Z2m a0) (fun r => (SzN r) ∧ (r.length ≤ 40)) := by
 unfold Z2m Zabk
 obtain ⟨d, hd, hl⟩ := Tot.str (xs := [IntKind.wrap .u8 (IntKind.wrap .u64 (48 + (Int.tmod a0 10)))]) (by simp) (by intro m hm; simp only [List.mem_cons, List.not_mem_nil, or_false] at hm; subst hm; exact Zbnq _)
 simp only [List.length_cons, List.length_nil] at hl
 rw [hd, Option.bind_some, Option.bind_some, Zde, Zbpc h0 h1]
 exact Zagb 20 (a0 / 10) d (by omega) (by omega) (by omega) (by omega) (by omega)
abbrev Zbf8 : Zom → Prop := fun _ => True
abbrev Zbj5 : Zom → M6 := fun _ => (0, 0, 0, 0, 0, 0)
theorem Zsj (a0 : Int) : Tot (Ztf a0) (fun r => (SzN r)) := by
 unfold Ztf
 refine Tot.fin (Inv := Zbf8) (μ := Zbj5) (m := (1000000, 0, 0, 0, 0, 0)) ?_ ?_
 ·unfold Zaj3
  refine Tot.dif (fun h1 => ?_) (fun h1 => ?_)
  ·have q2 : 0 ≤ IntKind.wrap .u64 a0 ∧ IntKind.wrap .u64 a0 < 18446744073709551616 := Za39 _
   have q3 : 0 ≤ IntKind.wrap .u64 (0 - (IntKind.wrap .u64 a0)) ∧ IntKind.wrap .u64 (0 - (IntKind.wrap .u64 a0)) < 18446744073709551616 := Za39 _
   refine Tot.bind (Zajj (IntKind.wrap .u64 (0 - (IntKind.wrap .u64 a0))) (by omega) (by omega)) (fun x4 h5 => ?_)
   replace h5 : (SzN x4) ∧ (x4.length ≤ 40) := h5
   have eh5_1 := h5.2
   try simp only [List.length_nil, List.length_cons, Nat.zero_add] at eh5_1
   have q6 : x4.length ≤ 100 := h5.1
   refine Tot.bind (Tot.okd (by first | (simp only [List.length_append, List.length_cons, List.length_nil]; omega) | omega)) (fun x7 h8 => ?_)
   exact Tot.inr (show (SzN (([45] : List UInt8) ++ x4)) from (by unfold SzN; first | omega | (simp only [List.length_append, List.length_cons, List.length_nil]; omega)))
  ·have q9 : 0 ≤ IntKind.wrap .u64 a0 ∧ IntKind.wrap .u64 a0 < 18446744073709551616 := Za39 _
   refine Tot.bind (Zajj (IntKind.wrap .u64 a0) (by omega) (by omega)) (fun x10 h11 => ?_)
   replace h11 : (SzN x10) ∧ (x10.length ≤ 40) := h11
   have eh11_1 := h11.2
   try simp only [List.length_nil, List.length_cons, Nat.zero_add] at eh11_1
   exact Tot.inr (show (SzN x10) from h11.1)
 ·intro s
  cases s
abbrev Zaui : Zir → Prop := fun _ => True
abbrev Zayq : Zir → M6 := fun _ => (0, 0, 0, 0, 0, 0)
theorem Zy7 (a0 : (List UInt8)) (a1 : Ze) (oa0 : SzN a0) (h0 : 0 ≤ a1.Kind) (h1 : a1.Kind ≤ 3) : Tot (Zp5 a0 a1) (fun r => (SzT r)) := by
 unfold Zp5
 refine Tot.fin (Inv := Zaui) (μ := Zayq) (m := (1000000, 0, 0, 0, 0, 0)) ?_ ?_
 ·have lb_a0 : a0.length ≤ 100 := oa0
  unfold Z2n
  refine Tot.ieq (fun h1 => ?_) (fun h1 => ?_)
  ·exact Tot.inr (show (SzT ([] : List UInt8)) from (SzT.nil))
  ·refine Tot.bind (Zbbi) (fun x2 h3 => ?_)
   replace h3 : ((SzL 16 SzN) x2) ∧ (x2.length = 4) := h3
   have eh3_1 := h3.2
   try simp only [List.length_nil, List.length_cons, Nat.zero_add] at eh3_1
   refine Tot.bind (Tot.idx (by omega) (by omega)) (fun x4 h5 => ?_)
   have oh5 : SzN x4 := h3.1.2 x4 h5.1
   have q6 : a0.length ≤ 100 := oa0
   have q7 : x4.length ≤ 100 := oh5
   refine Tot.bind (Tot.okd (by first | (simp only [List.length_append, List.length_cons, List.length_nil]; omega) | omega)) (fun x8 h9 => ?_)
   refine Tot.bind (Zsj a1.N) (fun x10 h11 => ?_)
   replace h11 : (SzN x10) := h11
   have q12 : x10.length ≤ 100 := h11
   refine Tot.bind (Tot.okd (by first | (simp only [List.length_append, List.length_cons, List.length_nil]; omega) | omega)) (fun x13 h14 => ?_)
   exact Tot.inr (show (SzT ((a0 ++ x4) ++ x10)) from (by unfold SzT; first | omega | (simp only [List.length_append, List.length_cons, List.length_nil]; omega)))
 ·intro s
  cases s
abbrev Zaed : Zln → Prop
 | .L0 v0 v1 v5 v6 => ((SzL 16 SzT) v0) ∧ (SzN v1) ∧ (0 ≤ v6) ∧ (v5.length ≤ 1125899906842624 * v6.toNat) ∧ (v0.length ≤ 100) ∧ (v6 ≤ v0.length)
abbrev Zu9 : Zln → M6
 | .L0 v0 v1 v5 v6 => (1, ((v0.length : Int) - v6).toNat, 1000000, 0, 0, 0)
theorem Za3c (v0 : (List (List UInt8))) (v1 : (List UInt8)) (v5 : (List UInt8)) (v6 : Int) (h : Zaed (.L0 v0 v1 v5 v6)) : Tot (Z6m v0 v1 v5 v6) (Nx Zaed Zu9 (Zu9 (.L0 v0 v1 v5 v6)) (fun r => (r.length ≤ 144115188075855872))) := by
 obtain ⟨ov0, ov1, cv6, i0, i1, i2⟩ := h
 have lb_v0 := ov0.1
 have lb_v1 : v1.length ≤ 100 := ov1
 unfold Z6m
 have q1 := ov0.1
 refine Tot.dif (fun h2 => ?_) (fun h2 => ?_)
 ·refine Tot.dif (fun h3 => ?_) (fun h3 => ?_)
  ·have q4 : v1.length ≤ 100 := ov1
   refine Tot.bind (Tot.okd (by first | (simp only [List.length_append, List.length_cons, List.length_nil]; omega) | omega)) (fun x5 h6 => ?_)
   refine Tot.bind (Tot.idx (by omega) (by omega)) (fun x7 h8 => ?_)
   have oh8 : SzT x7 := ov0.2 x7 h8.1
   have q9 : x7.length ≤ 562949953421312 := oh8
   refine Tot.bind (Tot.okd (by first | (simp only [List.length_append, List.length_cons, List.length_nil]; omega) | omega)) (fun x10 h11 => ?_)
   have q12 := Za3 (v6 + 1)
   have q13 := Za4 (v6 + 1)
   exact Tot.inl ⟨ov0, ov1, (by first | omega | (simp only [List.length_append, List.length_cons, List.length_nil]; omega) | trivial | decide | assumption | exact shl_ne' (by omega) (by omega) | (simp; done) | (simp; omega)), (by first | omega | (simp only [List.length_append, List.length_cons, List.length_nil]; omega) | trivial | decide | assumption | exact shl_ne' (by omega) (by omega) | (simp; done) | (simp; omega)), (by first | omega | (simp only [List.length_append, List.length_cons, List.length_nil]; omega) | trivial | decide | assumption | exact shl_ne' (by omega) (by omega) | (simp; done) | (simp; omega)), (by first | omega | (simp only [List.length_append, List.length_cons, List.length_nil]; omega) | trivial | decide | assumption | exact shl_ne' (by omega) (by omega) | (simp; done) | (simp; omega))⟩ (by unfold Zu9 lt6; dsimp only; omega)
  ·refine Tot.bind (Tot.idx (by omega) (by omega)) (fun x14 h15 => ?_)
   have oh15 : SzT x14 := ov0.2 x14 h15.1
   have q16 : x14.length ≤ 562949953421312 := oh15
   refine Tot.bind (Tot.okd (by first | (simp only [List.length_append, List.length_cons, List.length_nil]; omega) | omega)) (fun x17 h18 => ?_)
   have q19 := Za3 (v6 + 1)
   have q20 := Za4 (v6 + 1)
   exact Tot.inl ⟨ov0, ov1, (by first | omega | (simp only [List.length_append, List.length_cons, List.length_nil]; omega) | trivial | decide | assumption | exact shl_ne' (by omega) (by omega) | (simp; done) | (simp; omega)), (by first | omega | (simp only [List.length_append, List.length_cons, List.length_nil]; omega) | trivial | decide | assumption | exact shl_ne' (by omega) (by omega) | (simp; done) | (simp; omega)), (by first | omega | (simp only [List.length_append, List.length_cons, List.length_nil]; omega) | trivial | decide | assumption | exact shl_ne' (by omega) (by omega) | (simp; done) | (simp; omega)), (by first | omega | (simp only [List.length_append, List.length_cons, List.length_nil]; omega) | trivial | decide | assumption | exact shl_ne' (by omega) (by omega) | (simp; done) | (simp; omega))⟩ (by unfold Zu9 lt6; dsimp only; omega)
 ·exact Tot.inr (show (v5.length ≤ 144115188075855872) from (by omega))
theorem Zbf9 (a0 : (List (List UInt8))) (a1 : (List UInt8)) (oa0 : (SzL 16 SzT) a0) (oa1 : SzN a1) (h0 : a0.length ≤ 100) : Tot (Zaj5 a0 a1) (fun r => (r.length ≤ 144115188075855872)) := by
 unfold Zaj5
 refine Tot.fin (Inv := Zaed) (μ := Zu9) (m := (1000000, 0, 0, 0, 0, 0)) ?_ ?_
 ·have lb_a0 := oa0.1
  have lb_a1 : a1.length ≤ 100 := oa1
  unfold Zaj4
  exact Tot.inl ⟨oa0, oa1, (by first | omega | (simp only [List.length_append, List.length_cons, List.length_nil]; omega) | trivial | decide | assumption | exact shl_ne' (by omega) (by omega) | (simp; done) | (simp; omega)), (by first | omega | (simp only [List.length_append, List.length_cons, List.length_nil]; omega) | trivial | decide | assumption | exact shl_ne' (by omega) (by omega) | (simp; done) | (simp; omega)), (by first | omega | (simp only [List.length_append, List.length_cons, List.length_nil]; omega) | trivial | decide | assumption | exact shl_ne' (by omega) (by omega) | (simp; done) | (simp; omega)), (by first | omega | (simp only [List.length_append, List.length_cons, List.length_nil]; omega) | trivial | decide | assumption | exact shl_ne' (by omega) (by omega) | (simp; done) | (simp; omega))⟩ (by unfold Zu9 lt6; dsimp only; omega)
 ·intro s hs
  cases s with
  | L0 v0 v1 v5 v6 => exact Za3c v0 v1 v5 v6 hs
abbrev Zayr : Zjl → Prop := fun _ => True
abbrev Za3d : Zjl → M6 := fun _ => (0, 0, 0, 0, 0, 0)
theorem Zkx (b0 : (List (List UInt8))) (a1 : (List UInt8)) (ob0 : (SzL 16 SzT) b0) (oa1 : SzT a1) (h0 : b0.length ≤ 1000) : Tot (Zkd b0 a1) (fun r => ((SzL 16 SzT) r) ∧ (r.length ≤ b0.length + 1)) := by
 unfold Zkd
 refine Tot.fin (Inv := Zayr) (μ := Za3d) (m := (1000000, 0, 0, 0, 0, 0)) ?_ ?_
 ·have lb_b0 := ob0.1
  have lb_a1 : a1.length ≤ 562949953421312 := oa1
  unfold Z5d
  refine Tot.bif (fun h1 => ?_) (fun h1 => ?_)
  ·exact Tot.inr (show ((SzL 16 SzT) b0) ∧ (b0.length ≤ b0.length + 1) from ⟨ob0, (by omega)⟩)
  ·have q2 : (SzL 16 SzT) [a1] := ⟨by simp only [List.length_cons, List.length_nil]; omega, (mem_cons' oa1 (fun _ h => by cases h))⟩
   refine Tot.bind ((by have q5 : b0.length * 16 ≤ 140737488351232 := ob0.1; have q6 : [a1].length * 16 ≤ 140737488351232 := q2.1;  exact Tot.app (by first | omega | (simp only [List.length_cons, List.length_nil]; omega)) (by decide))) (fun x3 h4 => ?_)
   have lh4 : x3.length = b0.length + [a1].length := by rw [h4, List.length_append]
   try simp only [List.length_cons, List.length_nil, Nat.zero_add] at lh4
   exact Tot.inr (show ((SzL 16 SzT) x3) ∧ (x3.length ≤ b0.length + 1) from ⟨(SzL.app h4 (by omega) ob0.2 q2.2), (by omega)⟩)
 ·intro s
  cases s
abbrev Zhc : Ze4 → Prop
 | .L0 E0 v6 v7 v8 => (Zcv E0) ∧ ((SzL 16 SzN) v6) ∧ ((SzL 16 SzT) v7) ∧ (0 ≤ v8) ∧ (v7.length ≤ 3 + v8.toNat) ∧ (v8 ≤ 6) ∧ (v6.length = 3) ∧ (0 ≤ E0.Tap ∧ E0.Tap ≤ 2 ∧ 0 ≤ E0.Power.Kind ∧ E0.Power.Kind ≤ 3 ∧ 0 ≤ E0.Tough.Kind ∧ E0.Tough.Kind ≤ 3 ∧ 0 ≤ E0.Value.Kind ∧ E0.Value.Kind ≤ 3)
 | .L1 E0 v6 v7 v9 => (Zcv E0) ∧ ((SzL 16 SzN) v6) ∧ ((SzL 16 SzT) v7) ∧ (0 ≤ v9) ∧ (v7.length ≤ 9 + v9.toNat) ∧ (v9 ≤ 6) ∧ (v6.length = 3) ∧ (0 ≤ E0.Tap ∧ E0.Tap ≤ 2 ∧ 0 ≤ E0.Power.Kind ∧ E0.Power.Kind ≤ 3 ∧ 0 ≤ E0.Tough.Kind ∧ E0.Tough.Kind ≤ 3 ∧ 0 ≤ E0.Value.Kind ∧ E0.Value.Kind ≤ 3)
 | .L2 E0 v6 v7 v10 => (Zcv E0) ∧ ((SzL 16 SzN) v6) ∧ ((SzL 16 SzT) v7) ∧ (0 ≤ v10) ∧ (v7.length ≤ 15 + v10.toNat) ∧ (v10 ≤ 5) ∧ (v6.length = 3) ∧ (0 ≤ E0.Tap ∧ E0.Tap ≤ 2 ∧ 0 ≤ E0.Power.Kind ∧ E0.Power.Kind ≤ 3 ∧ 0 ≤ E0.Tough.Kind ∧ E0.Tough.Kind ≤ 3 ∧ 0 ≤ E0.Value.Kind ∧ E0.Value.Kind ≤ 3)
 | .L3 E0 v6 v7 v11 => (Zcv E0) ∧ ((SzL 16 SzN) v6) ∧ ((SzL 16 SzT) v7) ∧ (0 ≤ v11) ∧ (v7.length ≤ 20 + v11.toNat) ∧ (v11 ≤ 5) ∧ (v6.length = 3) ∧ (0 ≤ E0.Tap ∧ E0.Tap ≤ 2 ∧ 0 ≤ E0.Power.Kind ∧ E0.Power.Kind ≤ 3 ∧ 0 ≤ E0.Tough.Kind ∧ E0.Tough.Kind ≤ 3 ∧ 0 ≤ E0.Value.Kind ∧ E0.Value.Kind ≤ 3)
 | .L4 E0 v6 v7 => (Zcv E0) ∧ ((SzL 16 SzN) v6) ∧ ((SzL 16 SzT) v7) ∧ (v7.length ≤ 26) ∧ (v6.length = 3) ∧ (0 ≤ E0.Tap ∧ E0.Tap ≤ 2 ∧ 0 ≤ E0.Power.Kind ∧ E0.Power.Kind ≤ 3 ∧ 0 ≤ E0.Tough.Kind ∧ E0.Tough.Kind ≤ 3 ∧ 0 ≤ E0.Value.Kind ∧ E0.Value.Kind ≤ 3)
 | .L5 E0 v6 v7 v12 => (Zcv E0) ∧ ((SzL 16 SzN) v6) ∧ ((SzL 16 SzT) v7) ∧ (0 ≤ v12) ∧ (v7.length ≤ 26 + v12.toNat) ∧ (v12 ≤ 17) ∧ (v6.length = 3) ∧ (0 ≤ E0.Tap ∧ E0.Tap ≤ 2 ∧ 0 ≤ E0.Power.Kind ∧ E0.Power.Kind ≤ 3 ∧ 0 ≤ E0.Tough.Kind ∧ E0.Tough.Kind ≤ 3 ∧ 0 ≤ E0.Value.Kind ∧ E0.Value.Kind ≤ 3)
abbrev Zca : Ze4 → M6
 | .L0 E0 v6 v7 v8 => (9, (6 - v8).toNat, 1000000, 0, 0, 0)
 | .L1 E0 v6 v7 v9 => (7, (6 - v9).toNat, 1000000, 0, 0, 0)
 | .L2 E0 v6 v7 v10 => (5, (5 - v10).toNat, 1000000, 0, 0, 0)
 | .L3 E0 v6 v7 v11 => (3, (5 - v11).toNat, 1000000, 0, 0, 0)
 | .L4 E0 v6 v7 => (2, 0, 0, 0, 0, 0)
 | .L5 E0 v6 v7 v12 => (1, (17 - v12).toNat, 1000000, 0, 0, 0)
theorem Z4i (E0 : Zi) (v6 : (List (List UInt8))) (v7 : (List (List UInt8))) (h : Zhc (.L4 E0 v6 v7)) : Tot (Zu1 E0 v6 v7) (Nx Zhc Zca (Zca (.L4 E0 v6 v7)) (fun r => (r.length ≤ 144115188075855872))) := by
 obtain ⟨ob30000000, ov6, ov7, i0, i1, i2⟩ := h
 have lb_v6 := ov6.1
 have lb_v7 := ov7.1
 unfold Zu1
 exact Tot.inl ⟨ob30000000, ov6, ov7, (by omega), (by omega), (by omega), (by omega), (by omega)⟩ (by unfold Zca lt6; dsimp only; omega)
theorem Za3e (E0 : Zi) (v6 : (List (List UInt8))) (v7 : (List (List UInt8))) (v8 : Int) (h : Zhc (.L0 E0 v6 v7 v8)) : Tot (Z6n E0 v6 v7 v8) (Nx Zhc Zca (Zca (.L0 E0 v6 v7 v8)) (fun r => (r.length ≤ 144115188075855872))) := by
 obtain ⟨ob30000000, ov6, ov7, cv8, i0, i1, i2, i3⟩ := h
 have lb_v6 := ov6.1
 have lb_v7 := ov7.1
 unfold Z6n
 refine Tot.dif (fun h1 => ?_) (fun h1 => ?_)
 ·refine Tot.bind (Zzh E0.Types v8 (by omega)) (fun x2 h3 => ?_)
  refine Tot.bif (fun h4 => ?_) (fun h4 => ?_)
  ·refine Tot.bind (Zaec v8 (by omega)) (fun x5 h6 => ?_)
   replace h6 : (SzT x5) ∧ (x5.length ≤ 20000) := h6
   have eh6_1 := h6.2
   try simp only [List.length_nil, List.length_cons, Nat.zero_add] at eh6_1
   have q7 : (SzL 16 SzT) [x5] := ⟨by simp only [List.length_cons, List.length_nil]; omega, (mem_cons' h6.1 (fun _ h => by cases h))⟩
   refine Tot.bind ((by have q10 : v7.length * 16 ≤ 140737488351232 := ov7.1; have q11 : [x5].length * 16 ≤ 140737488351232 := q7.1;  exact Tot.app (by first | omega | (simp only [List.length_cons, List.length_nil]; omega)) (by decide))) (fun x8 h9 => ?_)
   have lh9 : x8.length = v7.length + [x5].length := by rw [h9, List.length_append]
   try simp only [List.length_cons, List.length_nil, Nat.zero_add] at lh9
   have q12 := Za3 (v8 + 1)
   have q13 := Za4 (v8 + 1)
   exact Tot.inl ⟨ob30000000, ov6, (SzL.app h9 (by omega) ov7.2 q7.2), (by omega), (by omega), (by omega), (by omega), (by omega)⟩ (by unfold Zca lt6; dsimp only; omega)
  ·have q14 := Za3 (v8 + 1)
   have q15 := Za4 (v8 + 1)
   exact Tot.inl ⟨ob30000000, ov6, ov7, (by omega), (by omega), (by omega), (by omega), (by omega)⟩ (by unfold Zca lt6; dsimp only; omega)
 ·exact Tot.inl ⟨ob30000000, ov6, ov7, (by omega), (by omega), (by omega), (by omega), (by omega)⟩ (by unfold Zca lt6; dsimp only; omega)
theorem Za3f (E0 : Zi) (v6 : (List (List UInt8))) (v7 : (List (List UInt8))) (v9 : Int) (h : Zhc (.L1 E0 v6 v7 v9)) : Tot (Z6o E0 v6 v7 v9) (Nx Zhc Zca (Zca (.L1 E0 v6 v7 v9)) (fun r => (r.length ≤ 144115188075855872))) := by
 obtain ⟨ob30000000, ov6, ov7, cv9, i0, i1, i2, i3⟩ := h
 have lb_v6 := ov6.1
 have lb_v7 := ov7.1
 unfold Z6o
 refine Tot.dif (fun h1 => ?_) (fun h1 => ?_)
 ·refine Tot.bind (Zzh E0.NotTypes v9 (by omega)) (fun x2 h3 => ?_)
  refine Tot.bif (fun h4 => ?_) (fun h4 => ?_)
  ·refine Tot.bind (Zaec v9 (by omega)) (fun x5 h6 => ?_)
   replace h6 : (SzT x5) ∧ (x5.length ≤ 20000) := h6
   have eh6_1 := h6.2
   try simp only [List.length_nil, List.length_cons, Nat.zero_add] at eh6_1
   have q7 : x5.length ≤ 562949953421312 := h6.1
   refine Tot.bind (Tot.okd (by first | (simp only [List.length_append, List.length_cons, List.length_nil]; omega) | omega)) (fun x8 h9 => ?_)
   have q10 : (SzL 16 SzT) [(([110, 111, 110, 45] : List UInt8) ++ x5)] := ⟨by simp only [List.length_cons, List.length_nil]; omega, (mem_cons' (by unfold SzT; first | omega | (simp only [List.length_append, List.length_cons, List.length_nil]; omega)) (fun _ h => by cases h))⟩
   refine Tot.bind ((by have q13 : v7.length * 16 ≤ 140737488351232 := ov7.1; have q14 : [(([110, 111, 110, 45] : List UInt8) ++ x5)].length * 16 ≤ 140737488351232 := q10.1;  exact Tot.app (by first | omega | (simp only [List.length_cons, List.length_nil]; omega)) (by decide))) (fun x11 h12 => ?_)
   have lh12 : x11.length = v7.length + [(([110, 111, 110, 45] : List UInt8) ++ x5)].length := by rw [h12, List.length_append]
   try simp only [List.length_cons, List.length_nil, Nat.zero_add] at lh12
   have q15 := Za3 (v9 + 1)
   have q16 := Za4 (v9 + 1)
   exact Tot.inl ⟨ob30000000, ov6, (SzL.app h12 (by omega) ov7.2 q10.2), (by omega), (by omega), (by omega), (by omega), (by omega)⟩ (by unfold Zca lt6; dsimp only; omega)
  ·have q17 := Za3 (v9 + 1)
   have q18 := Za4 (v9 + 1)
   exact Tot.inl ⟨ob30000000, ov6, ov7, (by omega), (by omega), (by omega), (by omega), (by omega)⟩ (by unfold Zca lt6; dsimp only; omega)
 ·exact Tot.inl ⟨ob30000000, ov6, ov7, (by omega), (by omega), (by omega), (by omega), (by omega)⟩ (by unfold Zca lt6; dsimp only; omega)
theorem Za3g (E0 : Zi) (v6 : (List (List UInt8))) (v7 : (List (List UInt8))) (v10 : Int) (h : Zhc (.L2 E0 v6 v7 v10)) : Tot (Z6p E0 v6 v7 v10) (Nx Zhc Zca (Zca (.L2 E0 v6 v7 v10)) (fun r => (r.length ≤ 144115188075855872))) := by
 obtain ⟨ob30000000, ov6, ov7, cv10, i0, i1, i2, i3⟩ := h
 have lb_v6 := ov6.1
 have lb_v7 := ov7.1
 unfold Z6p
 refine Tot.dif (fun h1 => ?_) (fun h1 => ?_)
 ·refine Tot.bind (Zzh E0.Colors v10 (by omega)) (fun x2 h3 => ?_)
  refine Tot.bif (fun h4 => ?_) (fun h4 => ?_)
  ·refine Tot.bind (Z4g v10) (fun x5 h6 => ?_)
   replace h6 : (SzN x5) := h6
   have q7 : (SzL 16 SzN) [x5] := ⟨by simp only [List.length_cons, List.length_nil]; omega, (mem_cons' h6 (fun _ h => by cases h))⟩
   refine Tot.bind ((by have q10 : v7.length * 16 ≤ 140737488351232 := ov7.1; have q11 : [x5].length * 16 ≤ 140737488351232 := (SzL.nt q7).1;  exact Tot.app (by first | omega | (simp only [List.length_cons, List.length_nil]; omega)) (by decide))) (fun x8 h9 => ?_)
   have lh9 : x8.length = v7.length + [x5].length := by rw [h9, List.length_append]
   try simp only [List.length_cons, List.length_nil, Nat.zero_add] at lh9
   have q12 := Za3 (v10 + 1)
   have q13 := Za4 (v10 + 1)
   exact Tot.inl ⟨ob30000000, ov6, (SzL.app h9 (by omega) ov7.2 (SzL.nt q7).2), (by omega), (by omega), (by omega), (by omega), (by omega)⟩ (by unfold Zca lt6; dsimp only; omega)
  ·have q14 := Za3 (v10 + 1)
   have q15 := Za4 (v10 + 1)
   exact Tot.inl ⟨ob30000000, ov6, ov7, (by omega), (by omega), (by omega), (by omega), (by omega)⟩ (by unfold Zca lt6; dsimp only; omega)
 ·exact Tot.inl ⟨ob30000000, ov6, ov7, (by omega), (by omega), (by omega), (by omega), (by omega)⟩ (by unfold Zca lt6; dsimp only; omega)
theorem Za3h (E0 : Zi) (v6 : (List (List UInt8))) (v7 : (List (List UInt8))) (v11 : Int) (h : Zhc (.L3 E0 v6 v7 v11)) : Tot (Z6q E0 v6 v7 v11) (Nx Zhc Zca (Zca (.L3 E0 v6 v7 v11)) (fun r => (r.length ≤ 144115188075855872))) := by
 obtain ⟨ob30000000, ov6, ov7, cv11, i0, i1, i2, i3⟩ := h
 have lb_v6 := ov6.1
 have lb_v7 := ov7.1
 unfold Z6q
 refine Tot.dif (fun h1 => ?_) (fun h1 => ?_)
 ·refine Tot.bind (Zzh E0.NotColors v11 (by omega)) (fun x2 h3 => ?_)
  refine Tot.bif (fun h4 => ?_) (fun h4 => ?_)
  ·refine Tot.bind (Z4g v11) (fun x5 h6 => ?_)
   replace h6 : (SzN x5) := h6
   have q7 : x5.length ≤ 100 := h6
   refine Tot.bind (Tot.okd (by first | (simp only [List.length_append, List.length_cons, List.length_nil]; omega) | omega)) (fun x8 h9 => ?_)
   have q10 : (SzL 16 SzT) [(([110, 111, 110, 45] : List UInt8) ++ x5)] := ⟨by simp only [List.length_cons, List.length_nil]; omega, (mem_cons' (by unfold SzT; first | omega | (simp only [List.length_append, List.length_cons, List.length_nil]; omega)) (fun _ h => by cases h))⟩
   refine Tot.bind ((by have q13 : v7.length * 16 ≤ 140737488351232 := ov7.1; have q14 : [(([110, 111, 110, 45] : List UInt8) ++ x5)].length * 16 ≤ 140737488351232 := q10.1;  exact Tot.app (by first | omega | (simp only [List.length_cons, List.length_nil]; omega)) (by decide))) (fun x11 h12 => ?_)
   have lh12 : x11.length = v7.length + [(([110, 111, 110, 45] : List UInt8) ++ x5)].length := by rw [h12, List.length_append]
   try simp only [List.length_cons, List.length_nil, Nat.zero_add] at lh12
   have q15 := Za3 (v11 + 1)
   have q16 := Za4 (v11 + 1)
   exact Tot.inl ⟨ob30000000, ov6, (SzL.app h12 (by omega) ov7.2 q10.2), (by omega), (by omega), (by omega), (by omega), (by omega)⟩ (by unfold Zca lt6; dsimp only; omega)
  ·have q17 := Za3 (v11 + 1)
   have q18 := Za4 (v11 + 1)
   exact Tot.inl ⟨ob30000000, ov6, ov7, (by omega), (by omega), (by omega), (by omega), (by omega)⟩ (by unfold Zca lt6; dsimp only; omega)
 ·refine Tot.not (fun h19 => ?_) (fun h19 => ?_)
  ·have q20 : E0.Sub.length ≤ 281474976710656 := ob30000000
   refine Tot.bind (Tot.okd (by first | (simp only [List.length_append, List.length_cons, List.length_nil]; omega) | omega)) (fun x21 h22 => ?_)
   have q23 : (SzL 16 SzT) [(([115, 117, 98, 58] : List UInt8) ++ E0.Sub)] := ⟨by simp only [List.length_cons, List.length_nil]; omega, (mem_cons' (by unfold SzT; first | omega | (simp only [List.length_append, List.length_cons, List.length_nil]; omega)) (fun _ h => by cases h))⟩
   refine Tot.bind ((by have q26 : v7.length * 16 ≤ 140737488351232 := ov7.1; have q27 : [(([115, 117, 98, 58] : List UInt8) ++ E0.Sub)].length * 16 ≤ 140737488351232 := q23.1;  exact Tot.app (by first | omega | (simp only [List.length_cons, List.length_nil]; omega)) (by decide))) (fun x24 h25 => ?_)
   have lh25 : x24.length = v7.length + [(([115, 117, 98, 58] : List UInt8) ++ E0.Sub)].length := by rw [h25, List.length_append]
   try simp only [List.length_cons, List.length_nil, Nat.zero_add] at lh25
   exact Tot.join (Z4i E0 v6 x24 ⟨ob30000000, ov6, (SzL.app h25 (by omega) ov7.2 q23.2), (by omega), (by omega), (by omega)⟩) (by unfold le6 lt6; dsimp only; omega)
  ·exact Tot.join (Z4i E0 v6 v7 ⟨ob30000000, ov6, ov7, (by omega), (by omega), (by omega)⟩) (by unfold le6 lt6; dsimp only; omega)
theorem Za3i (E0 : Zi) (v6 : (List (List UInt8))) (v7 : (List (List UInt8))) (v12 : Int) (h : Zhc (.L5 E0 v6 v7 v12)) : Tot (Z6r E0 v6 v7 v12) (Nx Zhc Zca (Zca (.L5 E0 v6 v7 v12)) (fun r => (r.length ≤ 144115188075855872))) := by
 obtain ⟨ob30000000, ov6, ov7, cv12, i0, i1, i2, i3⟩ := h
 have lb_v6 := ov6.1
 have lb_v7 := ov7.1
 unfold Z6r
 refine Tot.dif (fun h1 => ?_) (fun h1 => ?_)
 ·refine Tot.bind (Zzh E0.Keys v12 (by omega)) (fun x2 h3 => ?_)
  refine Tot.bif (fun h4 => ?_) (fun h4 => ?_)
  ·refine Tot.bind (Zaea v12) (fun x5 h6 => ?_)
   replace h6 : (SzN x5) := h6
   have q7 : x5.length ≤ 100 := h6
   refine Tot.bind (Tot.okd (by first | (simp only [List.length_append, List.length_cons, List.length_nil]; omega) | omega)) (fun x8 h9 => ?_)
   have q10 : (SzL 16 SzT) [(([119, 105, 116, 104, 58] : List UInt8) ++ x5)] := ⟨by simp only [List.length_cons, List.length_nil]; omega, (mem_cons' (by unfold SzT; first | omega | (simp only [List.length_append, List.length_cons, List.length_nil]; omega)) (fun _ h => by cases h))⟩
   refine Tot.bind ((by have q13 : v7.length * 16 ≤ 140737488351232 := ov7.1; have q14 : [(([119, 105, 116, 104, 58] : List UInt8) ++ x5)].length * 16 ≤ 140737488351232 := q10.1;  exact Tot.app (by first | omega | (simp only [List.length_cons, List.length_nil]; omega)) (by decide))) (fun x11 h12 => ?_)
   have lh12 : x11.length = v7.length + [(([119, 105, 116, 104, 58] : List UInt8) ++ x5)].length := by rw [h12, List.length_append]
   try simp only [List.length_cons, List.length_nil, Nat.zero_add] at lh12
   have q15 := Za3 (v12 + 1)
   have q16 := Za4 (v12 + 1)
   exact Tot.inl ⟨ob30000000, ov6, (SzL.app h12 (by omega) ov7.2 q10.2), (by omega), (by omega), (by omega), (by omega), (by omega)⟩ (by unfold Zca lt6; dsimp only; omega)
  ·have q17 := Za3 (v12 + 1)
   have q18 := Za4 (v12 + 1)
   exact Tot.inl ⟨ob30000000, ov6, ov7, (by omega), (by omega), (by omega), (by omega), (by omega)⟩ (by unfold Zca lt6; dsimp only; omega)
 ·refine Tot.bind (Tot.idx (by omega) (by omega)) (fun x19 h20 => ?_)
  have oh20 : SzN x19 := ov6.2 x19 h20.1
  refine Tot.bind (Zkx v7 x19 ov7 (SzN.t oh20) (by omega)) (fun x21 h22 => ?_)
  replace h22 : ((SzL 16 SzT) x21) ∧ (x21.length ≤ v7.length + 1) := h22
  have eh22_1 := h22.2
  try simp only [List.length_nil, List.length_cons, Nat.zero_add] at eh22_1
  refine Tot.bind (Zy7 ([112, 111, 119, 101, 114] : List UInt8) E0.Power (by unfold SzN; first | omega | (simp only [List.length_append, List.length_cons, List.length_nil]; omega)) (by omega) (by omega)) (fun x23 h24 => ?_)
  replace h24 : (SzT x23) := h24
  refine Tot.bind (Zkx x21 x23 h22.1 h24 (by omega)) (fun x25 h26 => ?_)
  replace h26 : ((SzL 16 SzT) x25) ∧ (x25.length ≤ x21.length + 1) := h26
  have eh26_1 := h26.2
  try simp only [List.length_nil, List.length_cons, Nat.zero_add] at eh26_1
  refine Tot.bind (Zy7 ([116, 111, 117, 103, 104] : List UInt8) E0.Tough (by unfold SzN; first | omega | (simp only [List.length_append, List.length_cons, List.length_nil]; omega)) (by omega) (by omega)) (fun x27 h28 => ?_)
  replace h28 : (SzT x27) := h28
  refine Tot.bind (Zkx x25 x27 h26.1 h28 (by omega)) (fun x29 h30 => ?_)
  replace h30 : ((SzL 16 SzT) x29) ∧ (x29.length ≤ x25.length + 1) := h30
  have eh30_1 := h30.2
  try simp only [List.length_nil, List.length_cons, Nat.zero_add] at eh30_1
  refine Tot.bind (Zy7 ([118, 97, 108, 117, 101] : List UInt8) E0.Value (by unfold SzN; first | omega | (simp only [List.length_append, List.length_cons, List.length_nil]; omega)) (by omega) (by omega)) (fun x31 h32 => ?_)
  replace h32 : (SzT x31) := h32
  refine Tot.bind (Zkx x29 x31 h30.1 h32 (by omega)) (fun x33 h34 => ?_)
  replace h34 : ((SzL 16 SzT) x33) ∧ (x33.length ≤ x29.length + 1) := h34
  have eh34_1 := h34.2
  try simp only [List.length_nil, List.length_cons, Nat.zero_add] at eh34_1
  have q35 := h34.1.1
  refine Tot.ieq (fun h36 => ?_) (fun h36 => ?_)
  ·exact Tot.inr (show (([97, 110, 121] : List UInt8).length ≤ 144115188075855872) from (by first | omega | (simp only [List.length_append, List.length_cons, List.length_nil]; omega) | trivial | decide | assumption | exact shl_ne' (by omega) (by omega) | (simp; done) | (simp; omega)))
  ·refine Tot.bind (Zbf9 x33 ([32] : List UInt8) h34.1 (by unfold SzN; first | omega | (simp only [List.length_append, List.length_cons, List.length_nil]; omega)) (by omega)) (fun x37 h38 => ?_)
   replace h38 : (x37.length ≤ 144115188075855872) := h38
   have eh38_0 := h38
   try simp only [List.length_nil, List.length_cons, Nat.zero_add] at eh38_0
   exact Tot.inr (show (x37.length ≤ 144115188075855872) from (by omega))
theorem Zbga (a0 : Zi) (oa0 : Zcv a0) : Tot (Zaj7 a0) (fun r => (r.length ≤ 144115188075855872)) := by
 unfold Zaj7
 refine Tot.fin (Inv := Zhc) (μ := Zca) (m := (1000000, 0, 0, 0, 0, 0)) ?_ ?_
 ·unfold Zaj6
  refine Tot.bind (Zmb a0 oa0) (fun x1 h2 => ?_)
  replace h2 : (x1 = true → 0 ≤ a0.Zone ∧ a0.Zone ≤ 5 ∧ 0 ≤ a0.Who ∧ a0.Who ≤ 2 ∧ 0 ≤ a0.Self ∧ a0.Self ≤ 2 ∧ 0 ≤ a0.Tap ∧ a0.Tap ≤ 2 ∧ 0 ≤ a0.Power.Kind ∧ a0.Power.Kind ≤ 3 ∧ 0 ≤ a0.Tough.Kind ∧ a0.Tough.Kind ≤ 3 ∧ 0 ≤ a0.Value.Kind ∧ a0.Value.Kind ≤ 3) := h2
  have eh2_0 := h2
  refine Tot.not (fun h3 => ?_) (fun h3 => ?_)
  ·exact Tot.inr (show (([] : List UInt8).length ≤ 144115188075855872) from (by first | omega | (simp only [List.length_append, List.length_cons, List.length_nil]; omega) | trivial | decide | assumption | exact shl_ne' (by omega) (by omega) | (simp; done) | (simp; omega)))
  ·have h3_0 := eh2_0 h3
   refine Tot.bind (Zauf) (fun x4 h5 => ?_)
   replace h5 : ((SzL 16 SzN) x4) ∧ (x4.length = 6) := h5
   have eh5_1 := h5.2
   try simp only [List.length_nil, List.length_cons, Nat.zero_add] at eh5_1
   refine Tot.bind (Zaym) (fun x6 h7 => ?_)
   replace h7 : ((SzL 16 SzN) x6) ∧ (x6.length = 3) := h7
   have eh7_1 := h7.2
   try simp only [List.length_nil, List.length_cons, Nat.zero_add] at eh7_1
   refine Tot.bind (Zauh) (fun x8 h9 => ?_)
   replace h9 : ((SzL 16 SzN) x8) ∧ (x8.length = 3) := h9
   have eh9_1 := h9.2
   try simp only [List.length_nil, List.length_cons, Nat.zero_add] at eh9_1
   refine Tot.bind (Zayp) (fun x10 h11 => ?_)
   replace h11 : ((SzL 16 SzN) x10) ∧ (x10.length = 3) := h11
   have eh11_1 := h11.2
   try simp only [List.length_nil, List.length_cons, Nat.zero_add] at eh11_1
   refine Tot.bind (Tot.idx (by omega) (by omega)) (fun x12 h13 => ?_)
   have oh13 : SzN x12 := h5.1.2 x12 h13.1
   refine Tot.bind (Zkx ([] : (List (List UInt8))) x12 SzL.nil (SzN.t oh13) (by first | omega | (simp only [List.length_append, List.length_cons, List.length_nil]; omega) | trivial | decide | assumption | exact shl_ne' (by omega) (by omega) | (simp; done) | (simp; omega))) (fun x14 h15 => ?_)
   replace h15 : ((SzL 16 SzT) x14) ∧ (x14.length ≤ ([] : (List (List UInt8))).length + 1) := h15
   have eh15_1 := h15.2
   try simp only [List.length_nil, List.length_cons, Nat.zero_add] at eh15_1
   refine Tot.bind (Tot.idx (by omega) (by omega)) (fun x16 h17 => ?_)
   have oh17 : SzN x16 := h7.1.2 x16 h17.1
   refine Tot.bind (Zkx x14 x16 h15.1 (SzN.t oh17) (by omega)) (fun x18 h19 => ?_)
   replace h19 : ((SzL 16 SzT) x18) ∧ (x18.length ≤ x14.length + 1) := h19
   have eh19_1 := h19.2
   try simp only [List.length_nil, List.length_cons, Nat.zero_add] at eh19_1
   refine Tot.bind (Tot.idx (by omega) (by omega)) (fun x20 h21 => ?_)
   have oh21 : SzN x20 := h9.1.2 x20 h21.1
   refine Tot.bind (Zkx x18 x20 h19.1 (SzN.t oh21) (by omega)) (fun x22 h23 => ?_)
   replace h23 : ((SzL 16 SzT) x22) ∧ (x22.length ≤ x18.length + 1) := h23
   have eh23_1 := h23.2
   try simp only [List.length_nil, List.length_cons, Nat.zero_add] at eh23_1
   exact Tot.inl ⟨oa0, h11.1, h23.1, (by omega), (by omega), (by omega), (by omega), (by omega)⟩ (by unfold Zca lt6; dsimp only; omega)
 ·intro s hs
  cases s with
  | L0 E0 v6 v7 v8 => exact Za3e E0 v6 v7 v8 hs
  | L1 E0 v6 v7 v9 => exact Za3f E0 v6 v7 v9 hs
  | L2 E0 v6 v7 v10 => exact Za3g E0 v6 v7 v10 hs
  | L3 E0 v6 v7 v11 => exact Za3h E0 v6 v7 v11 hs
  | L4 E0 v6 v7 => exact Z4i E0 v6 v7 hs
  | L5 E0 v6 v7 v12 => exact Za3i E0 v6 v7 v12 hs
abbrev Zbgb : Zon → Prop := fun _ => True
abbrev Zbj6 : Zon → M6 := fun _ => (0, 0, 0, 0, 0, 0)
theorem Zar3 (a0 : Zh) (oa0 : Zau a0) : Tot (Zabl a0) (fun r => (r.length ≤ 288230376151711744)) := by
 unfold Zabl
 refine Tot.fin (Inv := Zbgb) (μ := Zbj6) (m := (1000000, 0, 0, 0, 0, 0)) ?_ ?_
 ·unfold Zaj8
  refine Tot.bind (Za27 a0 oa0) (fun x1 h2 => ?_)
  refine Tot.not (fun h3 => ?_) (fun h3 => ?_)
  ·exact Tot.inr (show (([] : List UInt8).length ≤ 288230376151711744) from (by first | omega | (simp only [List.length_append, List.length_cons, List.length_nil]; omega) | trivial | decide | assumption | exact shl_ne' (by omega) (by omega) | (simp; done) | (simp; omega)))
  ·refine Tot.ieq (fun h4 => ?_) (fun h4 => ?_)
   ·exact Tot.inr (show (([99, 111, 110, 116, 114, 111, 108] : List UInt8).length ≤ 288230376151711744) from (by first | omega | (simp only [List.length_append, List.length_cons, List.length_nil]; omega) | trivial | decide | assumption | exact shl_ne' (by omega) (by omega) | (simp; done) | (simp; omega)))
   ·refine Tot.ieq (fun h5 => ?_) (fun h5 => ?_)
    ·refine Tot.bind (Zy6 a0.N) (fun x6 h7 => ?_)
     replace h7 : (SzT x6) ∧ (x6.length ≤ 20000) := h7
     have eh7_1 := h7.2
     try simp only [List.length_nil, List.length_cons, Nat.zero_add] at eh7_1
     have q8 : x6.length ≤ 562949953421312 := h7.1
     refine Tot.bind (Tot.okd (by first | (simp only [List.length_append, List.length_cons, List.length_nil]; omega) | omega)) (fun x9 h10 => ?_)
     exact Tot.inr (show ((([116, 121, 112, 101, 115, 61] : List UInt8) ++ x6).length ≤ 288230376151711744) from (by first | omega | (simp only [List.length_append, List.length_cons, List.length_nil]; omega) | trivial | decide | assumption | exact shl_ne' (by omega) (by omega) | (simp; done) | (simp; omega)))
    ·refine Tot.ieq (fun h11 => ?_) (fun h11 => ?_)
     ·refine Tot.bind (Zy6 a0.N) (fun x12 h13 => ?_)
      replace h13 : (SzT x12) ∧ (x12.length ≤ 20000) := h13
      have eh13_1 := h13.2
      try simp only [List.length_nil, List.length_cons, Nat.zero_add] at eh13_1
      have q14 : x12.length ≤ 562949953421312 := h13.1
      refine Tot.bind (Tot.okd (by first | (simp only [List.length_append, List.length_cons, List.length_nil]; omega) | omega)) (fun x15 h16 => ?_)
      exact Tot.inr (show ((([116, 121, 112, 101, 115, 43, 61] : List UInt8) ++ x12).length ≤ 288230376151711744) from (by first | omega | (simp only [List.length_append, List.length_cons, List.length_nil]; omega) | trivial | decide | assumption | exact shl_ne' (by omega) (by omega) | (simp; done) | (simp; omega)))
     ·refine Tot.ieq (fun h17 => ?_) (fun h17 => ?_)
      ·have q18 : a0.Sub.length ≤ 281474976710656 := oa0.1
       refine Tot.bind (Tot.okd (by first | (simp only [List.length_append, List.length_cons, List.length_nil]; omega) | omega)) (fun x19 h20 => ?_)
       exact Tot.inr (show ((([115, 117, 98, 61] : List UInt8) ++ a0.Sub).length ≤ 288230376151711744) from (by first | omega | (simp only [List.length_append, List.length_cons, List.length_nil]; omega) | trivial | decide | assumption | exact shl_ne' (by omega) (by omega) | (simp; done) | (simp; omega)))
      ·refine Tot.ieq (fun h21 => ?_) (fun h21 => ?_)
       ·have q22 : a0.Sub.length ≤ 281474976710656 := oa0.1
        refine Tot.bind (Tot.okd (by first | (simp only [List.length_append, List.length_cons, List.length_nil]; omega) | omega)) (fun x23 h24 => ?_)
        exact Tot.inr (show ((([115, 117, 98, 43, 61] : List UInt8) ++ a0.Sub).length ≤ 288230376151711744) from (by first | omega | (simp only [List.length_append, List.length_cons, List.length_nil]; omega) | trivial | decide | assumption | exact shl_ne' (by omega) (by omega) | (simp; done) | (simp; omega)))
       ·refine Tot.ieq (fun h25 => ?_) (fun h25 => ?_)
        ·refine Tot.bind (Zar1 a0.N) (fun x26 h27 => ?_)
         replace h27 : (SzT x26) := h27
         have q28 : x26.length ≤ 562949953421312 := h27
         refine Tot.bind (Tot.okd (by first | (simp only [List.length_append, List.length_cons, List.length_nil]; omega) | omega)) (fun x29 h30 => ?_)
         exact Tot.inr (show ((([99, 111, 108, 111, 114, 115, 61] : List UInt8) ++ x26).length ≤ 288230376151711744) from (by first | omega | (simp only [List.length_append, List.length_cons, List.length_nil]; omega) | trivial | decide | assumption | exact shl_ne' (by omega) (by omega) | (simp; done) | (simp; omega)))
        ·refine Tot.ieq (fun h31 => ?_) (fun h31 => ?_)
         ·refine Tot.bind (Zar1 a0.N) (fun x32 h33 => ?_)
          replace h33 : (SzT x32) := h33
          have q34 : x32.length ≤ 562949953421312 := h33
          refine Tot.bind (Tot.okd (by first | (simp only [List.length_append, List.length_cons, List.length_nil]; omega) | omega)) (fun x35 h36 => ?_)
          exact Tot.inr (show ((([99, 111, 108, 111, 114, 115, 43, 61] : List UInt8) ++ x32).length ≤ 288230376151711744) from (by first | omega | (simp only [List.length_append, List.length_cons, List.length_nil]; omega) | trivial | decide | assumption | exact shl_ne' (by omega) (by omega) | (simp; done) | (simp; omega)))
         ·refine Tot.ieq (fun h37 => ?_) (fun h37 => ?_)
          ·refine Tot.bind (Zar2 a0.N) (fun x38 h39 => ?_)
           replace h39 : (SzT x38) := h39
           have q40 : x38.length ≤ 562949953421312 := h39
           refine Tot.bind (Tot.okd (by first | (simp only [List.length_append, List.length_cons, List.length_nil]; omega) | omega)) (fun x41 h42 => ?_)
           exact Tot.inr (show ((([107, 101, 121, 115, 43, 61] : List UInt8) ++ x38).length ≤ 288230376151711744) from (by first | omega | (simp only [List.length_append, List.length_cons, List.length_nil]; omega) | trivial | decide | assumption | exact shl_ne' (by omega) (by omega) | (simp; done) | (simp; omega)))
          ·refine Tot.ieq (fun h43 => ?_) (fun h43 => ?_)
           ·refine Tot.bind (Zar2 a0.N) (fun x44 h45 => ?_)
            replace h45 : (SzT x44) := h45
            have q46 : x44.length ≤ 562949953421312 := h45
            refine Tot.bind (Tot.okd (by first | (simp only [List.length_append, List.length_cons, List.length_nil]; omega) | omega)) (fun x47 h48 => ?_)
            exact Tot.inr (show ((([107, 101, 121, 115, 45, 61] : List UInt8) ++ x44).length ≤ 288230376151711744) from (by first | omega | (simp only [List.length_append, List.length_cons, List.length_nil]; omega) | trivial | decide | assumption | exact shl_ne' (by omega) (by omega) | (simp; done) | (simp; omega)))
           ·refine Tot.ieq (fun h49 => ?_) (fun h49 => ?_)
            ·exact Tot.inr (show (([98, 108, 97, 110, 107] : List UInt8).length ≤ 288230376151711744) from (by first | omega | (simp only [List.length_append, List.length_cons, List.length_nil]; omega) | trivial | decide | assumption | exact shl_ne' (by omega) (by omega) | (simp; done) | (simp; omega)))
            ·refine Tot.ieq (fun h50 => ?_) (fun h50 => ?_)
             ·refine Tot.bind (Zbga a0.Filter oa0.2) (fun x51 h52 => ?_)
              replace h52 : (x51.length ≤ 144115188075855872) := h52
              have eh52_0 := h52
              try simp only [List.length_nil, List.length_cons, Nat.zero_add] at eh52_0
              refine Tot.bind (Tot.okd (by first | (simp only [List.length_append, List.length_cons, List.length_nil]; omega) | omega)) (fun x53 h54 => ?_)
              refine Tot.bind (Tot.okd (by first | (simp only [List.length_append, List.length_cons, List.length_nil]; omega) | omega)) (fun x55 h56 => ?_)
              exact Tot.inr (show (((([112, 116, 61, 99, 111, 117, 110, 116, 40] : List UInt8) ++ x51) ++ ([41] : List UInt8)).length ≤ 288230376151711744) from (by first | omega | (simp only [List.length_append, List.length_cons, List.length_nil]; omega) | trivial | decide | assumption | exact shl_ne' (by omega) (by omega) | (simp; done) | (simp; omega)))
             ·refine Tot.ieq (fun h57 => ?_) (fun h57 => ?_)
              ·refine Tot.bind (Zsj a0.N) (fun x58 h59 => ?_)
               replace h59 : (SzN x58) := h59
               have q60 : x58.length ≤ 100 := h59
               refine Tot.bind (Tot.okd (by first | (simp only [List.length_append, List.length_cons, List.length_nil]; omega) | omega)) (fun x61 h62 => ?_)
               refine Tot.bind (Tot.okd (by first | (simp only [List.length_append, List.length_cons, List.length_nil]; omega) | omega)) (fun x63 h64 => ?_)
               refine Tot.bind (Zsj a0.M) (fun x65 h66 => ?_)
               replace h66 : (SzN x65) := h66
               have q67 : x65.length ≤ 100 := h66
               refine Tot.bind (Tot.okd (by first | (simp only [List.length_append, List.length_cons, List.length_nil]; omega) | omega)) (fun x68 h69 => ?_)
               exact Tot.inr (show ((((([112, 116, 61] : List UInt8) ++ x58) ++ ([47] : List UInt8)) ++ x65).length ≤ 288230376151711744) from (by first | omega | (simp only [List.length_append, List.length_cons, List.length_nil]; omega) | trivial | decide | assumption | exact shl_ne' (by omega) (by omega) | (simp; done) | (simp; omega)))
              ·refine Tot.ieq (fun h70 => ?_) (fun h70 => ?_)
               ·refine Tot.bind (Zsj a0.N) (fun x71 h72 => ?_)
                replace h72 : (SzN x71) := h72
                have q73 : x71.length ≤ 100 := h72
                refine Tot.bind (Tot.okd (by first | (simp only [List.length_append, List.length_cons, List.length_nil]; omega) | omega)) (fun x74 h75 => ?_)
                refine Tot.bind (Tot.okd (by first | (simp only [List.length_append, List.length_cons, List.length_nil]; omega) | omega)) (fun x76 h77 => ?_)
                refine Tot.bind (Zsj a0.M) (fun x78 h79 => ?_)
                replace h79 : (SzN x78) := h79
                have q80 : x78.length ≤ 100 := h79
                refine Tot.bind (Tot.okd (by first | (simp only [List.length_append, List.length_cons, List.length_nil]; omega) | omega)) (fun x81 h82 => ?_)
                exact Tot.inr (show ((((([112, 116, 43, 61] : List UInt8) ++ x71) ++ ([47] : List UInt8)) ++ x78).length ≤ 288230376151711744) from (by first | omega | (simp only [List.length_append, List.length_cons, List.length_nil]; omega) | trivial | decide | assumption | exact shl_ne' (by omega) (by omega) | (simp; done) | (simp; omega)))
               ·exact Tot.inr (show (([112, 116, 45, 115, 119, 105, 116, 99, 104] : List UInt8).length ≤ 288230376151711744) from (by first | omega | (simp only [List.length_append, List.length_cons, List.length_nil]; omega) | trivial | decide | assumption | exact shl_ne' (by omega) (by omega) | (simp; done) | (simp; omega)))
 ·intro s
  cases s
abbrev Z06 : Zg4 → Prop
 | .L0 v0 v3 v4 => ((SzL 176 Zau) v0) ∧ (0 ≤ v4) ∧ (v3.length ≤ 576460752303423488 * v4.toNat) ∧ (v0.length ≤ 6) ∧ (v4 ≤ v0.length)
abbrev Zn5 : Zg4 → M6
 | .L0 v0 v3 v4 => (1, ((v0.length : Int) - v4).toNat, 1000000, 0, 0, 0)
theorem Zaol (v0 : (List Zh)) (v3 : (List UInt8)) (v4 : Int) (h : Z06 (.L0 v0 v3 v4)) : Tot (Zvr v0 v3 v4) (Nx Z06 Zn5 (Zn5 (.L0 v0 v3 v4)) (fun r => (r.length ≤ 4611686018427387904))) := by
 obtain ⟨ov0, cv4, i0, i1, i2⟩ := h
 have lb_v0 := ov0.1
 unfold Zvr
 have q1 := ov0.1
 refine Tot.dif (fun h2 => ?_) (fun h2 => ?_)
 ·refine Tot.bind (Tot.idx (by omega) (by omega)) (fun x3 h4 => ?_)
  have oh4 : Zau x3 := ov0.2 x3 h4.1
  refine Tot.bind (Za27 x3 oh4) (fun x5 h6 => ?_)
  refine Tot.not (fun h7 => ?_) (fun h7 => ?_)
  ·exact Tot.inr (show (([] : List UInt8).length ≤ 4611686018427387904) from (by first | omega | (simp only [List.length_append, List.length_cons, List.length_nil]; omega) | trivial | decide | assumption | exact shl_ne' (by omega) (by omega) | (simp; done) | (simp; omega)))
  ·refine Tot.dif (fun h8 => ?_) (fun h8 => ?_)
   ·refine Tot.bind (Tot.okd (by first | (simp only [List.length_append, List.length_cons, List.length_nil]; omega) | omega)) (fun x9 h10 => ?_)
    refine Tot.bind (Zar3 x3 oh4) (fun x11 h12 => ?_)
    replace h12 : (x11.length ≤ 288230376151711744) := h12
    have eh12_0 := h12
    try simp only [List.length_nil, List.length_cons, Nat.zero_add] at eh12_0
    refine Tot.bind (Tot.okd (by first | (simp only [List.length_append, List.length_cons, List.length_nil]; omega) | omega)) (fun x13 h14 => ?_)
    have q15 := Za3 (v4 + 1)
    have q16 := Za4 (v4 + 1)
    exact Tot.inl ⟨ov0, (by first | omega | (simp only [List.length_append, List.length_cons, List.length_nil]; omega) | trivial | decide | assumption | exact shl_ne' (by omega) (by omega) | (simp; done) | (simp; omega)), (by first | omega | (simp only [List.length_append, List.length_cons, List.length_nil]; omega) | trivial | decide | assumption | exact shl_ne' (by omega) (by omega) | (simp; done) | (simp; omega)), (by first | omega | (simp only [List.length_append, List.length_cons, List.length_nil]; omega) | trivial | decide | assumption | exact shl_ne' (by omega) (by omega) | (simp; done) | (simp; omega)), (by first | omega | (simp only [List.length_append, List.length_cons, List.length_nil]; omega) | trivial | decide | assumption | exact shl_ne' (by omega) (by omega) | (simp; done) | (simp; omega))⟩ (by unfold Zn5 lt6; dsimp only; omega)
   ·refine Tot.bind (Zar3 x3 oh4) (fun x17 h18 => ?_)
    replace h18 : (x17.length ≤ 288230376151711744) := h18
    have eh18_0 := h18
    try simp only [List.length_nil, List.length_cons, Nat.zero_add] at eh18_0
    refine Tot.bind (Tot.okd (by first | (simp only [List.length_append, List.length_cons, List.length_nil]; omega) | omega)) (fun x19 h20 => ?_)
    have q21 := Za3 (v4 + 1)
    have q22 := Za4 (v4 + 1)
    exact Tot.inl ⟨ov0, (by first | omega | (simp only [List.length_append, List.length_cons, List.length_nil]; omega) | trivial | decide | assumption | exact shl_ne' (by omega) (by omega) | (simp; done) | (simp; omega)), (by first | omega | (simp only [List.length_append, List.length_cons, List.length_nil]; omega) | trivial | decide | assumption | exact shl_ne' (by omega) (by omega) | (simp; done) | (simp; omega)), (by first | omega | (simp only [List.length_append, List.length_cons, List.length_nil]; omega) | trivial | decide | assumption | exact shl_ne' (by omega) (by omega) | (simp; done) | (simp; omega)), (by first | omega | (simp only [List.length_append, List.length_cons, List.length_nil]; omega) | trivial | decide | assumption | exact shl_ne' (by omega) (by omega) | (simp; done) | (simp; omega))⟩ (by unfold Zn5 lt6; dsimp only; omega)
 ·exact Tot.inr (show (v3.length ≤ 4611686018427387904) from (by omega))
theorem Z07 (a0 : (List Zh)) (oa0 : (SzL 176 Zau) a0) : Tot (Zrp a0) (fun r => (r.length ≤ 4611686018427387904)) := by
 unfold Zrp
 refine Tot.fin (Inv := Z06) (μ := Zn5) (m := (1000000, 0, 0, 0, 0, 0)) ?_ ?_
 ·have lb_a0 := oa0.1
  unfold Z5e
  have q1 := oa0.1
  refine Tot.ieq (fun h2 => ?_) (fun h2 => ?_)
  ·exact Tot.inr (show (([] : List UInt8).length ≤ 4611686018427387904) from (by first | omega | (simp only [List.length_append, List.length_cons, List.length_nil]; omega) | trivial | decide | assumption | exact shl_ne' (by omega) (by omega) | (simp; done) | (simp; omega)))
  ·refine Tot.dif (fun h3 => ?_) (fun h3 => ?_)
   ·exact Tot.inr (show (([] : List UInt8).length ≤ 4611686018427387904) from (by first | omega | (simp only [List.length_append, List.length_cons, List.length_nil]; omega) | trivial | decide | assumption | exact shl_ne' (by omega) (by omega) | (simp; done) | (simp; omega)))
   ·exact Tot.inl ⟨oa0, (by first | omega | (simp only [List.length_append, List.length_cons, List.length_nil]; omega) | trivial | decide | assumption | exact shl_ne' (by omega) (by omega) | (simp; done) | (simp; omega)), (by first | omega | (simp only [List.length_append, List.length_cons, List.length_nil]; omega) | trivial | decide | assumption | exact shl_ne' (by omega) (by omega) | (simp; done) | (simp; omega)), (by first | omega | (simp only [List.length_append, List.length_cons, List.length_nil]; omega) | trivial | decide | assumption | exact shl_ne' (by omega) (by omega) | (simp; done) | (simp; omega)), (by first | omega | (simp only [List.length_append, List.length_cons, List.length_nil]; omega) | trivial | decide | assumption | exact shl_ne' (by omega) (by omega) | (simp; done) | (simp; omega))⟩ (by unfold Zn5 lt6; dsimp only; omega)
 ·intro s hs
  cases s with
  | L0 v0 v3 v4 => exact Zaol v0 v3 v4 hs
abbrev Zbbj : Zm9 → Prop := fun _ => True
abbrev Zbgc : Zm9 → M6 := fun _ => (0, 0, 0, 0, 0, 0)
theorem Zbbk (a0 : Zii) : Tot (Zae0 a0) (fun r => True) := by
 unfold Zae0
 refine Tot.fin (Inv := Zbbj) (μ := Zbgc) (m := (1000000, 0, 0, 0, 0, 0)) ?_ ?_
 ·unfold Zago
  refine Tot.bind (Zamf a0.Mana) (fun x1 h2 => ?_)
  replace h2 : (x1 = true → a0.Mana.X ≤ 2) ∧ (x1 = true → ∀ n, n ∈ A5.list a0.Mana.Color → n ≤ 9) := h2
  have eh2_0 := h2.1
  have eh2_1 := h2.2
  refine Tot.bif (fun h3 => ?_) (fun h3 => ?_)
  ·have h3_0 := eh2_0 h3
   have h3_1 := eh2_1 h3
   refine Tot.ieq (fun h4 => ?_) (fun h4 => ?_)
   ·refine Tot.dif (fun h5 => ?_) (fun h5 => ?_)
    ·exact Tot.inr trivial
    ·exact Tot.inr trivial
   ·exact Tot.inr trivial
  ·exact Tot.inr trivial
 ·intro s
  cases s
abbrev Zbgd : Zoo → Prop := fun _ => True
abbrev Zbj7 : Zoo → M6 := fun _ => (0, 0, 0, 0, 0, 0)
theorem Zar4 (a0 : Int) : Tot (Zabm a0) (fun r => (SzN r)) := by
 unfold Zabm
 refine Tot.fin (Inv := Zbgd) (μ := Zbj7) (m := (1000000, 0, 0, 0, 0, 0)) ?_ ?_
 ·unfold Zaj9
  refine Tot.ieq (fun h1 => ?_) (fun h1 => ?_)
  ·exact Tot.inr (show (SzN ([101, 110, 116, 101, 114, 115] : List UInt8)) from (by unfold SzN; first | omega | (simp only [List.length_append, List.length_cons, List.length_nil]; omega)))
  ·refine Tot.ieq (fun h2 => ?_) (fun h2 => ?_)
   ·exact Tot.inr (show (SzN ([108, 101, 97, 118, 101, 115] : List UInt8)) from (by unfold SzN; first | omega | (simp only [List.length_append, List.length_cons, List.length_nil]; omega)))
   ·refine Tot.ieq (fun h3 => ?_) (fun h3 => ?_)
    ·exact Tot.inr (show (SzN ([100, 105, 101, 115] : List UInt8)) from (by unfold SzN; first | omega | (simp only [List.length_append, List.length_cons, List.length_nil]; omega)))
    ·refine Tot.ieq (fun h4 => ?_) (fun h4 => ?_)
     ·exact Tot.inr (show (SzN ([97, 116, 116, 97, 99, 107, 115] : List UInt8)) from (by unfold SzN; first | omega | (simp only [List.length_append, List.length_cons, List.length_nil]; omega)))
     ·refine Tot.ieq (fun h5 => ?_) (fun h5 => ?_)
      ·exact Tot.inr (show (SzN ([98, 108, 111, 99, 107, 115] : List UInt8)) from (by unfold SzN; first | omega | (simp only [List.length_append, List.length_cons, List.length_nil]; omega)))
      ·refine Tot.ieq (fun h6 => ?_) (fun h6 => ?_)
       ·exact Tot.inr (show (SzN ([100, 101, 97, 108, 115] : List UInt8)) from (by unfold SzN; first | omega | (simp only [List.length_append, List.length_cons, List.length_nil]; omega)))
       ·refine Tot.ieq (fun h7 => ?_) (fun h7 => ?_)
        ·exact Tot.inr (show (SzN ([100, 101, 97, 108, 116] : List UInt8)) from (by unfold SzN; first | omega | (simp only [List.length_append, List.length_cons, List.length_nil]; omega)))
        ·refine Tot.ieq (fun h8 => ?_) (fun h8 => ?_)
         ·exact Tot.inr (show (SzN ([100, 114, 97, 119, 115] : List UInt8)) from (by unfold SzN; first | omega | (simp only [List.length_append, List.length_cons, List.length_nil]; omega)))
         ·refine Tot.ieq (fun h9 => ?_) (fun h9 => ?_)
          ·exact Tot.inr (show (SzN ([99, 97, 115, 116, 115] : List UInt8)) from (by unfold SzN; first | omega | (simp only [List.length_append, List.length_cons, List.length_nil]; omega)))
          ·refine Tot.ieq (fun h10 => ?_) (fun h10 => ?_)
           ·exact Tot.inr (show (SzN ([117, 112, 107, 101, 101, 112] : List UInt8)) from (by unfold SzN; first | omega | (simp only [List.length_append, List.length_cons, List.length_nil]; omega)))
           ·refine Tot.ieq (fun h11 => ?_) (fun h11 => ?_)
            ·exact Tot.inr (show (SzN ([101, 110, 100] : List UInt8)) from (by unfold SzN; first | omega | (simp only [List.length_append, List.length_cons, List.length_nil]; omega)))
            ·refine Tot.ieq (fun h12 => ?_) (fun h12 => ?_)
             ·exact Tot.inr (show (SzN ([103, 97, 105, 110, 115] : List UInt8)) from (by unfold SzN; first | omega | (simp only [List.length_append, List.length_cons, List.length_nil]; omega)))
             ·refine Tot.ieq (fun h13 => ?_) (fun h13 => ?_)
              ·exact Tot.inr (show (SzN ([108, 111, 115, 101, 115] : List UInt8)) from (by unfold SzN; first | omega | (simp only [List.length_append, List.length_cons, List.length_nil]; omega)))
              ·refine Tot.ieq (fun h14 => ?_) (fun h14 => ?_)
               ·exact Tot.inr (show (SzN ([112, 108, 97, 99, 101, 100] : List UInt8)) from (by unfold SzN; first | omega | (simp only [List.length_append, List.length_cons, List.length_nil]; omega)))
               ·exact Tot.inr (show (SzN ([] : List UInt8)) from (SzN.nil))
 ·intro s
  cases s
abbrev Za6z : Zlo → Prop := fun _ => True
abbrev Zbbl : Zlo → M6 := fun _ => (0, 0, 0, 0, 0, 0)
theorem Zajk (a0 : Int) : Tot (Z2o a0) (fun r => True) := by
 unfold Z2o
 refine Tot.fin (Inv := Za6z) (μ := Zbbl) (m := (1000000, 0, 0, 0, 0, 0)) ?_ ?_
 ·unfold Zabn
  refine Tot.ieq (fun h1 => ?_) (fun h1 => ?_)
  ·exact Tot.inr trivial
  ·refine Tot.ieq (fun h2 => ?_) (fun h2 => ?_)
   ·exact Tot.inr trivial
   ·refine Tot.ieq (fun h3 => ?_) (fun h3 => ?_)
    ·exact Tot.inr trivial
    ·refine Tot.ieq (fun h4 => ?_) (fun h4 => ?_)
     ·exact Tot.inr trivial
     ·refine Tot.ieq (fun h5 => ?_) (fun h5 => ?_)
      ·exact Tot.inr trivial
      ·exact Tot.inr trivial
 ·intro s
  cases s
abbrev Zauj : Zis → Prop := fun _ => True
abbrev Zays : Zis → M6 := fun _ => (0, 0, 0, 0, 0, 0)
theorem Zauk (a0 : Int) : Tot (Zzr a0) (fun r => True) := by
 unfold Zzr
 refine Tot.fin (Inv := Zauj) (μ := Zays) (m := (1000000, 0, 0, 0, 0, 0)) ?_ ?_
 ·unfold Z2p
  refine Tot.bind (Zar4 a0) (fun x1 h2 => ?_)
  replace h2 : (SzN x1) := h2
  refine Tot.not (fun h3 => ?_) (fun h3 => ?_)
  ·refine Tot.bind (Zajk a0) (fun x4 h5 => ?_)
   refine Tot.not (fun h6 => ?_) (fun h6 => ?_)
   ·exact Tot.inr trivial
   ·exact Tot.inr trivial
  ·exact Tot.inr trivial
 ·intro s
  cases s
end Go.PW
