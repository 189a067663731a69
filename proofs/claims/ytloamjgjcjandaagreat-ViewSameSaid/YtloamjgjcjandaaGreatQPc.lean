import Derived.Test.YtloamjgjcjandaaGreatQPb
set_option linter.all false
set_option maxRecDepth 100000
namespace Go.PW
theorem Z5k {S R α : Type} {step : S → Option (S ⊕ R)} : ∀ (xs : List α) (st : Nat → S) (p : α → Bool) (K : Nat → α → Option R) (_ : ∀ i x, xs[i]? = some x → p x = true → Za4 step (st i) = K i x) (_ : ∀ i x, xs[i]? = some x → p x = false → step (st i) = some (.inl (st (i + 1)))),
 (∃ i x, xs[i]? = some x ∧ xs.find? p = some x ∧ Za4 step (st 0) = K i x) ∨ (xs.find? p = none ∧ Za4 step (st 0) = Za4 step (st xs.length))
 | [], _, _, _, _, _ => .inr ⟨rfl, rfl⟩
 | x :: xs, st, p, K, h1, h2 => by
  cases hp : p x with
  | true => exact .inl ⟨0, x, rfl, by simp [hp], h1 0 x rfl hp⟩
  | false =>
   have e := h2 0 x rfl hp
   rcases Z5k xs (fun i => st (i + 1)) p (fun i => K (i + 1)) (fun i y hy => h1 (i + 1) y (by simpa using hy)) (fun i y hy => h2 (i + 1) y (by simpa using hy)) with ⟨i, y, a, b, c⟩ | ⟨a, b⟩
   ·exact .inl ⟨i + 1, y, by simpa using a, by simp [hp, b], by rw [Zdg e]; exact c⟩
   ·exact .inr ⟨by simp [hp, a], by rw [Zdg e]; exact b⟩
def fO (s : Za) (id : Int) : Option Zm := s.Objects.find? fun o => o.Id == id
def zO : Zm := ⟨0, 0, 0, 0, 0, false, false, false, false, 0, ⟨0, 0, 0⟩, 0, 0, 0, false, 0, 0⟩
theorem Zx0 (o : Zm) (id : Int) : Zt0 o id = some (o.Id == id) := rfl
theorem Zaly (s : Za) (id : Int) (h : Zz s) : Z4k s id = some (match fO s id with | some o => (o, true) | none => (zO, false)) := by
 have hl : s.Objects.length * 128 ≤ 140737488351232 := h.2.1.1
 have hf := Z5k (step := Zaf.step) s.Objects (fun i : Nat => .L0 s.Objects id (s.Objects.length : Int) (i : Int)) (fun o => o.Id == id) (fun i _ => some ((i : Int), id)) (fun i x hx hp => by
  have hi := (List.getElem?_eq_some_iff.1 hx).1
  refine Zbf ?_
  show (Zac _ _ _ _).den = _
  dsimp only [Zac, LT.den]
  rw [decide_eq_true (show (i : Int) < (s.Objects.length : Int) by omega), cond_true, Zag hx, Option.bind_some, Zx0, hp]; rfl) (fun i x hx hp => by
  have hi := (List.getElem?_eq_some_iff.1 hx).1
  show (Zac _ _ _ _).den = _
  dsimp only [Zac, LT.den]
  rw [decide_eq_true (show (i : Int) < (s.Objects.length : Int) by omega), cond_true, Zag hx, Option.bind_some, Zx0, hp, Zaw hi (by omega)]; rfl)
 (unfold Z4k LF.run; dsimp only [Z71, LT.den]; unfold Zacw LF.run; dsimp only [Z4i, LT.den]; unfold Zd5 LF.run; dsimp only [Zds, LT.den])
 rw [Option.bind_some (f := Zlc Zaf.step), Zbt]
 rcases hf with ⟨i, x, hx, hfd, hr⟩ | ⟨hfd, hr⟩
 ·rw [show Za4 Zaf.step (.L0 s.Objects id (s.Objects.length : Int) 0) = some ((i : Int), id) from hr]
  simp only [Option.bind_some, Zef]
  rw [decide_eq_false (show ¬ (i : Int) < 0 by omega), cond_false, Zag hx]
  show some (x, true) = _
  rw [show fO s id = some x from hfd]
 ·have he : Za4 Zaf.step (.L0 s.Objects id (s.Objects.length : Int) (s.Objects.length : Int)) = some (-1, id) := Zbf (by
   show (Zac _ _ _ _).den = _
   dsimp only [Zac, LT.den]
   rw [decide_eq_false (by omega)]; rfl)
  rw [show Za4 Zaf.step (.L0 s.Objects id (s.Objects.length : Int) 0) = some (-1, id) from hr.trans he]
  rw [show fO s id = none from hfd]
  rfl
theorem Zso (l : List Int) (n : Int) (h : l.length * 8 ≤ 140737488351232) : Zhq l n = some (decide (n ∈ l)) := by
 have hf := Zsm (step := Zcy.step) l (fun i : Nat => .L0 l n (l.length : Int) (i : Int)) (fun i => (i : Int)) (fun w => n == w) (fun i x hx => by
  have hi := (List.getElem?_eq_some_iff.1 hx).1
  show (Zel _ _ _ _).den = _
  dsimp only [Zel, LT.den]
  rw [decide_eq_true (show (i : Int) < (l.length : Int) by omega), cond_true, Zag hx, Option.bind_some, Zaw hi (by omega)]
  cases n == x <;> rfl)
 (unfold Zhq LF.run; dsimp only [Zi2, LT.den]; unfold Zmu LF.run; dsimp only [Zkx, LT.den])
 rw [Option.bind_some (f := Zlc Zcy.step), Zbt]
 have hm : l.any (fun w => n == w) = decide (n ∈ l) := by
  rw [Bool.eq_iff_iff]; simp
 rw [← hm]
 rcases hf with ⟨h1, i, h2, h3⟩ | ⟨h1, h2⟩
 ·rw [show Za4 Zcy.step (.L0 l n (l.length : Int) 0) = some (i : Int) from h3, h1]
  simp only [Option.bind_some, Zef]
  rw [decide_eq_true (by omega)]
 ·have he : Za4 Zcy.step (.L0 l n (l.length : Int) (l.length : Int)) = some (-1) := Zbf (by
   show (Zel _ _ _ _).den = _
   dsimp only [Zel, LT.den]
   rw [decide_eq_false (by omega)]; rfl)
  rw [show Za4 Zcy.step (.L0 l n (l.length : Int) 0) = some (-1) from h2.trans he, h1]; rfl
theorem Zao9 (l : List Int) (n : Int) (h : l.length * 8 ≤ 140737488351232) : Zae7 l n = some (decide (n ∈ l)) := by
 have hf := Zsm (step := Ziq.step) l (fun i : Nat => .L0 l n (i : Int)) (fun i => (i : Int)) (fun w => w == n) (fun i x hx => by
  have hi := (List.getElem?_eq_some_iff.1 hx).1
  show (Zlu _ _ _).den = _
  dsimp only [Zlu, LT.den]
  rw [decide_eq_true (show (i : Int) < (l.length : Int) by omega), cond_true, Zag hx, Option.bind_some, Zaw hi (by omega)]
  cases x == n <;> rfl)
 (unfold Zae7 LF.run; dsimp only [Zagj, LT.den]; unfold Zagi LF.run; dsimp only [Z77, LT.den])
 rw [Option.bind_some (f := Zlc Ziq.step), Zbt]
 have hm : l.any (fun w => w == n) = decide (n ∈ l) := by
  rw [Bool.eq_iff_iff]; simp
 rw [← hm]
 rcases hf with ⟨h1, i, h2, h3⟩ | ⟨h1, h2⟩
 ·rw [show Za4 Ziq.step (.L0 l n 0) = some (i : Int) from h3, h1]
  simp only [Option.bind_some, Zef]
  rw [decide_eq_true (by omega)]
 ·have he : Za4 Ziq.step (.L0 l n (l.length : Int)) = some (-1) := Zbf (by
   show (Zlu _ _ _).den = _
   dsimp only [Zlu, LT.den]
   rw [decide_eq_false (by omega)]; rfl)
  rw [show Za4 Ziq.step (.L0 l n 0) = some (-1) from h2.trans he, h1]; rfl
def okP (s : Za) (p id : Int) (i : Nat) : Bool := match s.Players[i]? with
 | some x => !decide (id ∈ x.Library) && !(((i : Int) != p) && decide (id ∈ x.Hand))
 | none => true
def zK (s : Za) (p : Int) (o : Zm) : Bool := o.Zone != 2 && (o.Zone != 1 || (decide (p ≥ 0) && decide (p < (s.Players.length : Int))))
def vK (s : Za) (p id : Int) : Bool := match fO s id with
 | some o => (List.range s.Players.length).all (okP s p id) && zK s p o
 | none => false
theorem Zoa (s : Za) (p id : Int) (h : Zz s) : Z06 s p id = some (vK s p id) := by
 have hl : s.Players.length * 152 ≤ 140737488351232 := h.1.1
 (unfold Z06 LF.run; dsimp only [Z4l, LT.den]; unfold vK)
 rw [Zaly s id h, Option.bind_some]
 cases fO s id with
 | none => rfl
 | some o =>
  simp only [Bool.not_true, cond_false, Option.bind_some, Zbt]
  have hs := scan (step := Zpq.step) (st := fun i : Nat => .L0 p id s o (s.Players.length : Int) (i : Int)) (bad := false) s.Players.length (okP s p id) (fun i hi => by
   have hx := List.getElem?_eq_getElem hi
   have hp := h.1.2 _ (List.getElem_mem hi)
   show (Zkf _ _ _ _ _ _).den = _
   (dsimp only [Zkf, LT.den]; unfold okP)
   rw [decide_eq_true (show (i : Int) < (s.Players.length : Int) by omega), cond_true, Zag hx, Option.bind_some, Zso _ _ hp.1.1, Option.bind_some, Zso _ _ hp.2.1.1, Option.bind_some, Zaw hi (by omega), hx]
   dsimp only
   cases decide (id ∈ s.Players[i].Library) <;> cases (i : Int) != p <;> cases decide (id ∈ s.Players[i].Hand) <;> rfl)
  refine Eq.trans hs ?_
  have he : Za4 Zpq.step (.L0 p id s o (s.Players.length : Int) (s.Players.length : Int)) = some (zK s p o) := Zbf (by
   show (Zkf _ _ _ _ _ _).den = _
   (dsimp only [Zkf, LT.den]; unfold zK)
   rw [decide_eq_false (by omega), cond_false]
   cases o.Zone != 2 <;> cases o.Zone != 1 <;> cases decide (p ≥ 0) <;> rfl)
  rw [he]
  cases (List.range s.Players.length).all (okP s p id) <;> rfl
def hK (s : Za) (p id : Int) : Bool := decide (p ≥ 0) && match s.Players[p.toNat]? with
 | some x => decide (id ∈ x.Hand)
 | none => false
def rK (s : Za) (p id : Int) : Bool := match fO s id with
 | some o => o.Zone != 2 && (o.Zone != 1 || hK s p id)
 | none => false
theorem Zalz (s : Za) (p id : Int) (h : Zz s) : Z4q s p id = some (rK s p id) := by
 have hl : s.Objects.length * 128 ≤ 140737488351232 := h.2.1.1
 have hf := Z5k (step := Zre.step) s.Objects (fun i : Nat => .L0 p id s (i : Int)) (fun o => o.Id == id) (fun i o => some (o.Zone != 2 && (o.Zone != 1 || hK s p id))) (fun i x hx hp => by
  have hi := (List.getElem?_eq_some_iff.1 hx).1
  refine Zbf ?_
  show (Zh1 _ _ _ _).den = _
  (dsimp only [Zh1, LT.den]; unfold hK)
  rw [decide_eq_true (show (i : Int) < (s.Objects.length : Int) by omega), cond_true, Zag hx, Option.bind_some, hp, cond_true]
  cases x.Zone != 2
  ·rfl
  ·cases x.Zone != 1
   ·by_cases h0 : p ≥ 0
    ·rw [decide_eq_true h0]
     by_cases h1 : p < (s.Players.length : Int)
     ·obtain ⟨y, hy, hm, hg⟩ := tI (show 0 ≤ p from h0) h1
      rw [decide_eq_true h1]
      simp only [cond_true, cond_false]
      rw [hy, Option.bind_some, Zao9 _ _ (h.1.2 y hm).2.1.1, hg]
      rfl
     ·rw [decide_eq_false h1, List.getElem?_eq_none (by omega)]; rfl
    ·rw [decide_eq_false h0]; rfl
   ·rfl) (fun i x hx hp => by
  have hi := (List.getElem?_eq_some_iff.1 hx).1
  show (Zh1 _ _ _ _).den = _
  dsimp only [Zh1, LT.den]
  rw [decide_eq_true (show (i : Int) < (s.Objects.length : Int) by omega), cond_true, Zag hx, Option.bind_some, hp, Zaw hi (by omega)]; rfl)
 (unfold Z4q LF.run; dsimp only [Z78, LT.den]; unfold rK)
 rw [Option.bind_some, Zbt]
 rcases hf with ⟨i, x, hx, hfd, hr⟩ | ⟨hfd, hr⟩
 ·rw [show fO s id = some x from hfd]; exact hr
 ·have he : Za4 Zre.step (.L0 p id s (s.Objects.length : Int)) = some false := Zbf (by
   show (Zh1 _ _ _ _).den = _
   dsimp only [Zh1, LT.den]
   rw [decide_eq_false (by omega)]; rfl)
  rw [show fO s id = none from hfd]; exact hr.trans he
end Go.PW
