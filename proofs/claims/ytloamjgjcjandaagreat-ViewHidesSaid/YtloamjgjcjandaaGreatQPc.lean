import Derived.Test.YtloamjgjcjandaaGreatQPb
set_option linter.all false
set_option maxRecDepth 100000
namespace Go.PW
theorem Zyv {S R α : Type} {step : S → Option (S ⊕ R)} : ∀ (xs : List α) (st : Nat → S) (p : α → Bool) (K : Nat → α → Option R) (_ : ∀ i x, xs[i]? = some x → p x = true → Zaw step (st i) = K i x) (_ : ∀ i x, xs[i]? = some x → p x = false → step (st i) = some (.inl (st (i + 1)))),
 (∃ i x, xs[i]? = some x ∧ xs.find? p = some x ∧ Zaw step (st 0) = K i x) ∨ (xs.find? p = none ∧ Zaw step (st 0) = Zaw step (st xs.length))
 | [], _, _, _, _, _ => .inr ⟨rfl, rfl⟩
 | x :: xs, st, p, K, h1, h2 => by
  cases hp : p x with
  | true => exact .inl ⟨0, x, rfl, by simp [hp], h1 0 x rfl hp⟩
  | false =>
   have e := h2 0 x rfl hp
   rcases Zyv xs (fun i => st (i + 1)) p (fun i => K (i + 1)) (fun i y hy => h1 (i + 1) y (by simpa using hy)) (fun i y hy => h2 (i + 1) y (by simpa using hy)) with ⟨i, y, a, b, c⟩ | ⟨a, b⟩
   ·exact .inl ⟨i + 1, y, by simpa using a, by simp [hp, b], by rw [Zcw e]; exact c⟩
   ·exact .inr ⟨by simp [hp, a], by rw [Zcw e]; exact b⟩
def fO (s : Za) (id : Int) : Option Zh := s.Objects.find? fun o => o.Id == id
def zO : Zh := ⟨0, 0, 0, 0, 0, false, false, false, false, 0, ⟨0, 0, 0⟩, 0, 0, 0, false, 0, 0⟩
theorem Zyw (o : Zh) (id : Int) : Zut o id = some (o.Id == id) := rfl
theorem Zamo (s : Za) (id : Int) (h : Zw s) : Z46 s id = some (match fO s id with | some o => (o, true) | none => (zO, false)) := by
 have hl : s.Objects.length * 128 ≤ 140737488351232 := h.2.1.1
 have hf := Zyv (step := Zag.step) s.Objects (fun i : Nat => .L0 s.Objects id (s.Objects.length : Int) (i : Int)) (fun o => o.Id == id) (fun i _ => some ((i : Int), id)) (fun i x hx hp => by
  have hi := (List.getElem?_eq_some_iff.1 hx).1
  refine Za7 ?_
  show (Zac _ _ _ _).den = _
  dsimp only [Zac, LT.den]
  rw [decide_eq_true (show (i : Int) < (s.Objects.length : Int) by omega), cond_true, Z8 hx, Option.bind_some, Zyw, hp]; rfl) (fun i x hx hp => by
  have hi := (List.getElem?_eq_some_iff.1 hx).1
  show (Zac _ _ _ _).den = _
  dsimp only [Zac, LT.den]
  rw [decide_eq_true (show (i : Int) < (s.Objects.length : Int) by omega), cond_true, Z8 hx, Option.bind_some, Zyw, hp, Zat hi (by omega)]; rfl)
 (unfold Z46 LF.run; dsimp only [Z8i, LT.den]; unfold Zadf LF.run; dsimp only [Z44, LT.den]; unfold Zd6 LF.run; dsimp only [Zdt, LT.den])
 rw [Option.bind_some (f := Zls Zag.step), Zbb]
 rcases hf with ⟨i, x, hx, hfd, hr⟩ | ⟨hfd, hr⟩
 ·rw [show Zaw Zag.step (.L0 s.Objects id (s.Objects.length : Int) 0) = some ((i : Int), id) from hr]
  simp only [Option.bind_some, Zcz]
  rw [decide_eq_false (show ¬ (i : Int) < 0 by omega), cond_false, Z8 hx]
  show some (x, true) = _
  rw [show fO s id = some x from hfd]
 ·have he : Zaw Zag.step (.L0 s.Objects id (s.Objects.length : Int) (s.Objects.length : Int)) = some (-1, id) := Za7 (by
   show (Zac _ _ _ _).den = _
   dsimp only [Zac, LT.den]
   rw [decide_eq_false (by omega)]; rfl)
  rw [show Zaw Zag.step (.L0 s.Objects id (s.Objects.length : Int) 0) = some (-1, id) from hr.trans he]
  rw [show fO s id = none from hfd]
  rfl
theorem Ztd (l : List Int) (n : Int) (h : l.length * 8 ≤ 140737488351232) : Zhx l n = some (decide (n ∈ l)) := by
 have hf := Ztb (step := Zcy.step) l (fun i : Nat => .L0 l n (l.length : Int) (i : Int)) (fun i => (i : Int)) (fun w => n == w) (fun i x hx => by
  have hi := (List.getElem?_eq_some_iff.1 hx).1
  show (Zel _ _ _ _).den = _
  dsimp only [Zel, LT.den]
  rw [decide_eq_true (show (i : Int) < (l.length : Int) by omega), cond_true, Z8 hx, Option.bind_some, Zat hi (by omega)]
  cases n == x <;> rfl)
 (unfold Zhx LF.run; dsimp only [Zjd, LT.den]; unfold Znf LF.run; dsimp only [Zlc, LT.den])
 rw [Option.bind_some (f := Zls Zcy.step), Zbb]
 have hm : l.any (fun w => n == w) = decide (n ∈ l) := by
  rw [Bool.eq_iff_iff]; simp
 rw [← hm]
 rcases hf with ⟨h1, i, h2, h3⟩ | ⟨h1, h2⟩
 ·rw [show Zaw Zcy.step (.L0 l n (l.length : Int) 0) = some (i : Int) from h3, h1]
  simp only [Option.bind_some, Zcz]
  rw [decide_eq_true (by omega)]
 ·have he : Zaw Zcy.step (.L0 l n (l.length : Int) (l.length : Int)) = some (-1) := Za7 (by
   show (Zel _ _ _ _).den = _
   dsimp only [Zel, LT.den]
   rw [decide_eq_false (by omega)]; rfl)
  rw [show Zaw Zcy.step (.L0 l n (l.length : Int) 0) = some (-1) from h2.trans he, h1]; rfl
theorem Zapv (l : List Int) (n : Int) (h : l.length * 8 ≤ 140737488351232) : Zafp l n = some (decide (n ∈ l)) := by
 have hf := Ztb (step := Zi0.step) l (fun i : Nat => .L0 l n (i : Int)) (fun i => (i : Int)) (fun w => w == n) (fun i x hx => by
  have hi := (List.getElem?_eq_some_iff.1 hx).1
  show (Zmc _ _ _).den = _
  dsimp only [Zmc, LT.den]
  rw [decide_eq_true (show (i : Int) < (l.length : Int) by omega), cond_true, Z8 hx, Option.bind_some, Zat hi (by omega)]
  cases x == n <;> rfl)
 (unfold Zafp LF.run; dsimp only [Zagy, LT.den]; unfold Zagx LF.run; dsimp only [Z8o, LT.den])
 rw [Option.bind_some (f := Zls Zi0.step), Zbb]
 have hm : l.any (fun w => w == n) = decide (n ∈ l) := by
  rw [Bool.eq_iff_iff]; simp
 rw [← hm]
 rcases hf with ⟨h1, i, h2, h3⟩ | ⟨h1, h2⟩
 ·rw [show Zaw Zi0.step (.L0 l n 0) = some (i : Int) from h3, h1]
  simp only [Option.bind_some, Zcz]
  rw [decide_eq_true (by omega)]
 ·have he : Zaw Zi0.step (.L0 l n (l.length : Int)) = some (-1) := Za7 (by
   show (Zmc _ _ _).den = _
   dsimp only [Zmc, LT.den]
   rw [decide_eq_false (by omega)]; rfl)
  rw [show Zaw Zi0.step (.L0 l n 0) = some (-1) from h2.trans he, h1]; rfl
def okP (s : Za) (p id : Int) (i : Nat) : Bool := match s.Players[i]? with
 | some x => !decide (id ∈ x.Library) && !(((i : Int) != p) && decide (id ∈ x.Hand))
 | none => true
def zK (s : Za) (p : Int) (o : Zh) : Bool := o.Zone != 2 && (o.Zone != 1 || (decide (p ≥ 0) && decide (p < (s.Players.length : Int))))
def vK (s : Za) (p id : Int) : Bool := match fO s id with
 | some o => (List.range s.Players.length).all (okP s p id) && zK s p o
 | none => false
theorem Zox (s : Za) (p id : Int) (h : Zw s) : Z15 s p id = some (vK s p id) := by
 have hl : s.Players.length * 152 ≤ 140737488351232 := h.1.1
 (unfold Z15 LF.run; dsimp only [Z47, LT.den]; unfold vK)
 rw [Zamo s id h, Option.bind_some]
 cases fO s id with
 | none => rfl
 | some o =>
  simp only [Bool.not_true, cond_false, Option.bind_some, Zbb]
  have hs := scan (step := Zqe.step) (st := fun i : Nat => .L0 p id s o (s.Players.length : Int) (i : Int)) (bad := false) s.Players.length (okP s p id) (fun i hi => by
   have hx := List.getElem?_eq_getElem hi
   have hp := h.1.2 _ (List.getElem_mem hi)
   show (Zkr _ _ _ _ _ _).den = _
   (dsimp only [Zkr, LT.den]; unfold okP)
   rw [decide_eq_true (show (i : Int) < (s.Players.length : Int) by omega), cond_true, Z8 hx, Option.bind_some, Ztd _ _ hp.1.1, Option.bind_some, Ztd _ _ hp.2.1.1, Option.bind_some, Zat hi (by omega), hx]
   dsimp only
   cases decide (id ∈ s.Players[i].Library) <;> cases (i : Int) != p <;> cases decide (id ∈ s.Players[i].Hand) <;> rfl)
  refine Eq.trans hs ?_
  have he : Zaw Zqe.step (.L0 p id s o (s.Players.length : Int) (s.Players.length : Int)) = some (zK s p o) := Za7 (by
   show (Zkr _ _ _ _ _ _).den = _
   (dsimp only [Zkr, LT.den]; unfold zK)
   rw [decide_eq_false (by omega), cond_false]
   cases o.Zone != 2 <;> cases o.Zone != 1 <;> cases decide (p ≥ 0) <;> rfl)
  rw [he]
  cases (List.range s.Players.length).all (okP s p id) <;> rfl
def hK (s : Za) (p id : Int) : Bool := decide (p ≥ 0) && match s.Players[p.toNat]? with
 | some x => decide (id ∈ x.Hand)
 | none => false
def rK (s : Za) (p id : Int) : Bool := match fO s id with
 | some o => o.Zone != 2 && (o.Zone != 1 || hK s p id)
 | none => false
theorem Zamp (s : Za) (p id : Int) (h : Zw s) : Z5c s p id = some (rK s p id) := by
 have hl : s.Objects.length * 128 ≤ 140737488351232 := h.2.1.1
 have hf := Zyv (step := Zr3.step) s.Objects (fun i : Nat => .L0 p id s (i : Int)) (fun o => o.Id == id) (fun i o => some (o.Zone != 2 && (o.Zone != 1 || hK s p id))) (fun i x hx hp => by
  have hi := (List.getElem?_eq_some_iff.1 hx).1
  refine Za7 ?_
  show (Zh9 _ _ _ _).den = _
  (dsimp only [Zh9, LT.den]; unfold hK)
  rw [decide_eq_true (show (i : Int) < (s.Objects.length : Int) by omega), cond_true, Z8 hx, Option.bind_some, hp, cond_true]
  cases x.Zone != 2
  ·rfl
  ·cases x.Zone != 1
   ·by_cases h0 : p ≥ 0
    ·rw [decide_eq_true h0]
     by_cases h1 : p < (s.Players.length : Int)
     ·obtain ⟨y, hy, hm, hg⟩ := tI (show 0 ≤ p from h0) h1
      rw [decide_eq_true h1]
      simp only [cond_true, cond_false]
      rw [hy, Option.bind_some, Zapv _ _ (h.1.2 y hm).2.1.1, hg]
      rfl
     ·rw [decide_eq_false h1, List.getElem?_eq_none (by omega)]; rfl
    ·rw [decide_eq_false h0]; rfl
   ·rfl) (fun i x hx hp => by
  have hi := (List.getElem?_eq_some_iff.1 hx).1
  show (Zh9 _ _ _ _).den = _
  dsimp only [Zh9, LT.den]
  rw [decide_eq_true (show (i : Int) < (s.Objects.length : Int) by omega), cond_true, Z8 hx, Option.bind_some, hp, Zat hi (by omega)]; rfl)
 (unfold Z5c LF.run; dsimp only [Z8p, LT.den]; unfold rK)
 rw [Option.bind_some, Zbb]
 rcases hf with ⟨i, x, hx, hfd, hr⟩ | ⟨hfd, hr⟩
 ·rw [show fO s id = some x from hfd]; exact hr
 ·have he : Zaw Zr3.step (.L0 p id s (s.Objects.length : Int)) = some false := Za7 (by
   show (Zh9 _ _ _ _).den = _
   dsimp only [Zh9, LT.den]
   rw [decide_eq_false (by omega)]; rfl)
  rw [show fO s id = none from hfd]; exact hr.trans he
structure VS (s : Za) : Prop where
 lib : ∀ (i : Nat) x, s.Players[i]? = some x → ∀ id, id ∈ x.Library → ∃ o, fO s id = some o ∧ o.Zone = 2
 hand : ∀ (i : Nat) x, s.Players[i]? = some x → ∀ id, id ∈ x.Hand → ∃ o, fO s id = some o ∧ o.Zone = 1 ∧ o.Owner = (i : Int)
 own : ∀ id o, fO s id = some o → o.Zone = 1 → ∃ x, 0 ≤ o.Owner ∧ s.Players[o.Owner.toNat]? = some x ∧ id ∈ x.Hand
theorem Zaur {s : Za} (h : VS s) (p id : Int) : vK s p id = rK s p id := by
 (unfold vK; unfold rK)
 cases hf : fO s id with
 | none => rfl
 | some o =>
  simp only
  by_cases h2 : o.Zone = 2
  ·simp [zK, h2]
  ·have e2 : (o.Zone != 2) = true := by rw [int_bne']; simp [h2]
   have hlib : ∀ (i : Nat) x, s.Players[i]? = some x → id ∉ x.Library := fun i x hx hm => by
    obtain ⟨o', h3, h4⟩ := h.lib i x hx id hm
    rw [hf] at h3; cases h3; exact h2 h4
   by_cases h1 : o.Zone = 1
   ·have e1 : (o.Zone != 1) = false := by rw [int_bne']; simp [h1]
    simp only [zK, e2, e1, Bool.true_and, Bool.false_or]
    obtain ⟨y, g0, g1, g2⟩ := h.own id o hf h1
    have hown : ∀ (i : Nat) x, s.Players[i]? = some x → id ∈ x.Hand → o.Owner = (i : Int) := fun i x hx hm => by
     obtain ⟨o', h3, _, h5⟩ := h.hand i x hx id hm
     rw [hf] at h3; cases h3; exact h5
    have hall : (List.range s.Players.length).all (okP s p id) = decide (o.Owner = p) := by
     rw [Bool.eq_iff_iff, List.all_eq_true, decide_eq_true_eq]
     constructor
     ·intro ha
      have hlt := (List.getElem?_eq_some_iff.1 g1).1
      have := ha o.Owner.toNat (List.mem_range.2 hlt)
      simp only [okP, g1, decide_eq_true g2, Bool.and_true, Bool.and_eq_true, Bool.not_eq_true', int_bne', Bool.not_eq_false', decide_eq_true_eq] at this
      omega
     ·intro ha i hi
      have hlt := List.mem_range.1 hi
      have hx := List.getElem?_eq_getElem (List.mem_range.1 hi)
      simp only [okP, hx, decide_eq_false (hlib i _ hx), Bool.not_false, Bool.true_and, Bool.not_eq_true', int_bne']
      by_cases hm : id ∈ s.Players[i].Hand
      ·have := hown i _ hx hm
       rw [decide_eq_true (show (i : Int) = p by omega)]; rfl
      ·rw [decide_eq_false hm, Bool.and_false]
    rw [hall]
    unfold hK
    by_cases hp : o.Owner = p
    ·subst hp
     have hlt := (List.getElem?_eq_some_iff.1 g1).1
     simp only [g1, decide_eq_true g2, decide_eq_true (show o.Owner ≥ 0 from g0)]
     rw [decide_eq_true (show o.Owner < (s.Players.length : Int) by omega)]; simp
    ·rw [decide_eq_false hp, Bool.false_and]
     symm
     rw [Bool.and_eq_false_iff]
     by_cases h0 : p ≥ 0
     ·right
      cases hx : s.Players[p.toNat]? with
      | none => rfl
      | some x =>
       simp only
       refine decide_eq_false fun hm => hp ?_
       have := hown _ x hx hm
       omega
     ·left; exact decide_eq_false h0
   ·have e1 : (o.Zone != 1) = true := by rw [int_bne']; simp [h1]
    simp only [zK, e2, e1, Bool.true_or, Bool.true_and, Bool.and_true]
    rw [List.all_eq_true]
    intro i hi
    have hlt := List.mem_range.1 hi
    have hx := List.getElem?_eq_getElem (List.mem_range.1 hi)
    have hm : id ∉ s.Players[i].Hand := fun hm => by
     obtain ⟨o', h3, h4, _⟩ := h.hand i _ hx id hm
     rw [hf] at h3; cases h3; exact h1 h4
    simp [okP, hx, hlib i _ hx, hm]
end Go.PW
