import Derived.Test.YtloamjgjcjandaaGreatQPc
set_option linter.all false
set_option maxRecDepth 100000
namespace Go.PW
theorem Z1j {α : Type} {b : List α} {i k : Nat} {x : α} {P : α → Bool} (h : b[i]? = some x) (hp : P x = true) (hb : b.length * k ≤ 140737488351232) (hk : 0 < k) : app? k ((b.take i).filter P) [x] = some ((b.take (i + 1)).filter P) := by
 have hi := (List.getElem?_eq_some_iff.1 h).1
 have h1 : ((b.take i).filter P).length ≤ i := Nat.le_trans (List.length_filter_le _ _) (by rw [List.length_take]; omega)
 rw [Zada _ hk, List.take_add_one, h, List.filter_append]
 ·simp [hp]
 ·have := Nat.mul_le_mul_right k (show ((b.take i).filter P).length + [x].length ≤ b.length by simp only [List.length_cons, List.length_nil]; omega)
  omega
theorem Zagp {α : Type} {b : List α} {i : Nat} {x : α} {P : α → Bool} (h : b[i]? = some x) (hp : P x = false) : (b.take (i + 1)).filter P = (b.take i).filter P := by
 rw [List.take_add_one, h, List.filter_append]
 simp [hp]
def Zwm (g : Z8) (p id : Int) : Bool := g.Pending.Kind != 0 && (g.Pending.Player == p && g.Pending.Options.any fun o => o.Kind == 5 && o.A == id)
theorem Zal0 (o : Z5) (id : Int) : Zoi o id = some (o.Kind == 5 && o.A == id) := by
 (unfold Zoi LF.run; dsimp only [Zsc, LT.den])
 cases o.Kind == 5 <;> rfl
theorem Zal1 (l : List Z5) (id : Int) (h : l.length * 24 ≤ 140737488351232) : Zch l id = some (l.any (fun o => o.Kind == 5 && o.A == id), id) := by
 have hf := Zsm (step := Zam.step) l (fun i : Nat => .L0 l id (l.length : Int) (i : Int)) (fun i => ((i : Int), id)) (fun o => o.Kind == 5 && o.A == id) (fun i x hx => by
  have hi := (List.getElem?_eq_some_iff.1 hx).1
  show (Zbe _ _ _ _).den = _
  dsimp only [Zbe, LT.den]
  rw [decide_eq_true (show (i : Int) < (l.length : Int) by omega), cond_true, Zag hx, Option.bind_some, Zal0, Option.bind_some, Zaw hi (by omega)]
  cases (x.Kind == 5 && x.A == id) <;> rfl)
 (unfold Zch LF.run; dsimp only [Zdo, LT.den]; unfold Zd9 LF.run; dsimp only [Zdy, LT.den])
 rw [Option.bind_some (f := Zlc Zam.step), Zbt]
 rcases hf with ⟨h1, i, h2, h3⟩ | ⟨h1, h2⟩
 ·rw [show Za4 Zam.step (.L0 l id (l.length : Int) 0) = some ((i : Int), id) from h3, h1]
  simp only [Option.bind_some, Zef]
  rw [decide_eq_true (by omega)]
 ·have he : Za4 Zam.step (.L0 l id (l.length : Int) (l.length : Int)) = some (-1, id) := Zbf (by
   show (Zbe _ _ _ _).den = _
   dsimp only [Zbe, LT.den]
   rw [decide_eq_false (by omega)]; rfl)
  rw [show Za4 Zam.step (.L0 l id (l.length : Int) 0) = some (-1, id) from h2.trans he, h1]; rfl
theorem Zang (g : Z8) (p id : Int) (h : Zgh g) : Zkr id g p = some (Zwm g p id) := by
 (unfold Zkr LF.run; dsimp only [Zoy, LT.den]; unfold Zwm)
 rw [Zal1 _ _ h.2.2.2.1.1, Option.bind_some]
 cases g.Pending.Kind != 0 <;> cases g.Pending.Player == p <;> rfl
theorem Zafp (g : Z8) (p id : Int) (h : Zgh g) : Zyy g p id = some (Zwm g p id) := by
 have hl : g.Pending.Options.length * 24 ≤ 140737488351232 := h.2.2.2.1.1
 have hf := Zsm (step := Zs6.step) g.Pending.Options (fun i : Nat => .L0 id g (i : Int)) (fun i => true) (fun o => o.Kind == 5 && o.A == id) (fun i x hx => by
  have hi := (List.getElem?_eq_some_iff.1 hx).1
  show (Zi5 _ _ _).den = _
  dsimp only [Zi5, LT.den]
  rw [decide_eq_true (show (i : Int) < (g.Pending.Options.length : Int) by omega), cond_true, Zag hx, Option.bind_some, Zaw hi (by omega)]
  cases x.Kind == 5 <;> cases x.A == id <;> rfl)
 (unfold Zyy LF.run; dsimp only [Z11, LT.den]; unfold Zwm)
 rw [show (g.Pending.Kind != 0) = !(g.Pending.Kind == 0) from rfl, show (g.Pending.Player != p) = !(g.Pending.Player == p) from rfl]
 cases g.Pending.Kind == 0
 ·cases g.Pending.Player == p
  ·rfl
  ·simp only [Bool.not_true, Bool.not_false, Bool.true_and, cond_false, Option.bind_some, Zbt]
   rcases hf with ⟨h1, i, h2, h3⟩ | ⟨h1, h2⟩
   ·exact h3.trans (by rw [h1])
   ·refine (h2.trans (Zbf ?_)).trans (by rw [h1])
    show (Zi5 _ _ _).den = _
    dsimp only [Zi5, LT.den]
    rw [decide_eq_false (by omega)]; rfl
 ·rfl
def Zh3 (x : Z0) : Zbz := ⟨x.Life, x.Venom, x.Lands, (x.Library.length : Int), (x.Hand.length : Int), x.Pool, x.Lost, x.Graveyard⟩
def Zon (l : List Z0) (p : Int) (i : Nat) : List Int := if 0 ≤ p ∧ p < i then (match l[p.toNat]? with | some x => x.Hand | none => []) else []
abbrev vB (s : Za) (p : Int) (P : List Zbz) (H : List Int) (O : List Zm) (C : Za0) : Zs := ⟨p, P, H, O, s.Battlefield, s.Exile, s.Stack, s.Waiting, s.Conts, s.Turn, s.Active, s.Step, s.Priority, s.Passes, s.NextId, s.Over, s.Winner, s.Extra, C⟩
def vC (g : Z8) (p : Int) : Za0 := bif g.Pending.Player == p then g.Pending else ⟨g.Pending.Kind, g.Pending.Player, 0, 0, 0, 0, []⟩
def vOf (K : Za → Int → Int → Bool) (g : Z8) (p : Int) : Zs := vB g.State p (g.State.Players.map Zh3) (Zon g.State.Players p g.State.Players.length) (g.State.Objects.filter fun o => K g.State p o.Id || Zwm g p o.Id) (vC g p)
def oP (K : Za → Int → Int → Bool) (g : Z8) (p : Int) (o : Zm) : Bool := K g.State p o.Id || Zwm g p o.Id
theorem Zasn {l : List Z0} {p : Int} {i : Nat} {x : Z0} (h : l[i]? = some x) (e : (i : Int) = p) : Zon l p (i + 1) = x.Hand := by
 subst e
 unfold Zon
 rw [if_pos (by omega), Int.toNat_natCast, h]
theorem Zaso {l : List Z0} {p : Int} {i : Nat} (e : (i : Int) ≠ p) : Zon l p (i + 1) = Zon l p i := by
 unfold Zon
 by_cases h : 0 ≤ p ∧ p < (i : Int)
 ·rw [if_pos h, if_pos (by omega)]
 ·rw [if_neg h, if_neg (by omega)]
theorem Zan0 {l : List Z0} {i : Nat} {x : Z0} (h : l[i]? = some x) (hl : l.length * 152 ≤ 140737488351232) : app? 120 ((l.map Zh3).take i) [Zh3 x] = some ((l.map Zh3).take (i + 1)) :=
 Zq6 (by rw [List.getElem?_map, h]; rfl) (by rw [List.length_map]; omega) (by decide)
abbrev noC : Za0 := ⟨0, 0, 0, 0, 0, 0, []⟩
theorem Zad9 (g : Z8) (p : Int) (h : Zgh g) : Z52 g p = some (vOf vK g p) := by
 have hpl : g.State.Players.length * 152 ≤ 140737488351232 := h.2.1.1.1
 have hob : g.State.Objects.length * 128 ≤ 140737488351232 := h.2.1.2.1.1
 have l1 : ∀ Z V H, Za4 Zo0.step (.L1 g p Z g.State (vB g.State p V H [] noC) g.State.Objects (g.State.Objects.length : Int) 0) = some (vB g.State p V H (g.State.Objects.filter (oP vK g p)) (vC g p)) := fun Z V H => by
  have r := Zkz (step := Zo0.step) (st := fun (i : Nat) (v : Zs) => .L1 g p Z g.State v g.State.Objects (g.State.Objects.length : Int) (i : Int)) g.State.Objects.length (fun i => vB g.State p V H ((g.State.Objects.take i).filter (oP vK g p)) noC) (fun i hi => by
   have hx := List.getElem?_eq_getElem hi
   generalize g.State.Objects[i] = x at hx
   show (Zps _ _ _ _ _ _ _ _).den = _
   dsimp only [Zps, LT.den]
   rw [decide_eq_true (show (i : Int) < (g.State.Objects.length : Int) by omega), cond_true, Zag hx, Option.bind_some, Zoa _ _ _ h.2.1, Option.bind_some, Zang _ _ _ h, Option.bind_some, Zaw hi (by omega)]
   have ho : oP vK g p x = (vK g.State p x.Id || Zwm g p x.Id) := rfl
   cases h1 : vK g.State p x.Id
   ·cases h2 : Zwm g p x.Id
    ·rw [h1, h2] at ho
     simp only [cond_false]
     rw [Zagp hx ho]
    ·rw [h1, h2] at ho
     simp only [cond_false, cond_true]
     rw [Z1j hx ho hob (by decide)]; rfl
   ·rw [h1] at ho
    simp only [cond_true]
    rw [Z1j hx ho hob (by decide)]; rfl)
  refine Eq.trans r (Zbf ?_)
  rw [List.take_length]
  show (Zps _ _ _ _ _ _ _ _).den = _
  (dsimp only [Zps, LT.den]; unfold vC)
  rw [decide_eq_false (by omega), cond_false, Zj6 _ h.2.2.2.1.1, Option.bind_some]
  cases g.Pending.Player == p <;> rfl
 have l0 : ∀ Z, Za4 Zo0.step (.L0 g p Z g.State (vB g.State p [] [] [] noC) g.State.Players (g.State.Players.length : Int) 0) = some (vOf vK g p) := fun Z => by
  have e0 : Zon g.State.Players p 0 = [] := by unfold Zon; rw [if_neg (by omega)]
  have r := Zkz (step := Zo0.step) (st := fun (i : Nat) (v : Zs) => .L0 g p Z g.State v g.State.Players (g.State.Players.length : Int) (i : Int)) g.State.Players.length (fun i => vB g.State p ((g.State.Players.map Zh3).take i) (Zon g.State.Players p i) [] noC) (fun i hi => by
   have hx := List.getElem?_eq_getElem hi
   generalize g.State.Players[i] = x at hx
   have hs := Zan0 hx hpl
   show (Zpr _ _ _ _ _ _ _ _).den = _
   dsimp only [Zpr, LT.den]
   rw [decide_eq_true (show (i : Int) < (g.State.Players.length : Int) by omega), cond_true, Zag hx, Option.bind_some]
   rw [show (⟨x.Life, x.Venom, x.Lands, (x.Library.length : Int), (x.Hand.length : Int), x.Pool, x.Lost, x.Graveyard⟩ : Zbz) = Zh3 x from rfl]
   show Option.bind (app? 120 ((g.State.Players.map Zh3).take i) [Zh3 x]) _ = _
   rw [hs, Option.bind_some, Zaw hi (by omega)]
   by_cases e : (i : Int) = p
   ·rw [show ((i : Int) == p) = true from decide_eq_true e, Zasn hx e]; rfl
   ·rw [show ((i : Int) == p) = false from decide_eq_false e, Zaso e]; rfl)
  rw [e0] at r
  refine Eq.trans r ?_
  rw [Zdg (s' := .L1 g p Z g.State (vB g.State p (g.State.Players.map Zh3) (Zon g.State.Players p g.State.Players.length) [] noC) g.State.Objects (g.State.Objects.length : Int) 0)]
  ·exact l1 _ _ _
  ·show (Zpr _ _ _ _ _ _ _ _).den = _
   dsimp only [Zpr, LT.den]
   rw [decide_eq_false (by omega), cond_false, List.take_of_length_le (by rw [List.length_map]; exact Nat.le_refl _)]
 (unfold Z52 LF.run; dsimp only [Zagh, LT.den])
 rw [Zalx _ h.2.1, Option.bind_some, Option.bind_some, Zbt]
 exact l0 _
theorem Zarr (s : Za) (p : Int) : Zon s.Players p s.Players.length = if 0 ≤ p then (match s.Players[p.toNat]? with | some x => x.Hand | none => []) else [] := by
 unfold Zon
 by_cases h : 0 ≤ p
 ·by_cases h1 : p < (s.Players.length : Int)
  ·rw [if_pos ⟨h, h1⟩, if_pos h]
  ·rw [if_neg (by omega), if_pos h, List.getElem?_eq_none (by omega)]
 ·rw [if_neg (by omega), if_neg h]
theorem Zagq (g : Z8) (p : Int) (h : Zgh g) : Zac1 g p = some (vOf rK g p) := by
 have hpl : g.State.Players.length * 152 ≤ 140737488351232 := h.2.1.1.1
 have hob : g.State.Objects.length * 128 ≤ 140737488351232 := h.2.1.2.1.1
 have l1 : ∀ Z V H, Za4 Zqz.step (.L2 p g Z g.State (vB g.State p V H [] noC) 0) = some (vB g.State p V H (g.State.Objects.filter (oP rK g p)) (vC g p)) := fun Z V H => by
  have r := Zkz (step := Zqz.step) (st := fun (i : Nat) (v : Zs) => .L2 p g Z g.State v (i : Int)) g.State.Objects.length (fun i => vB g.State p V H ((g.State.Objects.take i).filter (oP rK g p)) noC) (fun i hi => by
   have hx := List.getElem?_eq_getElem hi
   generalize g.State.Objects[i] = x at hx
   show (Zsk _ _ _ _ _ _).den = _
   dsimp only [Zsk, LT.den]
   rw [decide_eq_true (show (i : Int) < (g.State.Objects.length : Int) by omega), cond_true, Zag hx, Option.bind_some, Zalz _ _ _ h.2.1, Option.bind_some, Zafp _ _ _ h, Option.bind_some, Zaw hi (by omega)]
   have ho : oP rK g p x = (rK g.State p x.Id || Zwm g p x.Id) := rfl
   cases h1 : rK g.State p x.Id
   ·cases h2 : Zwm g p x.Id
    ·rw [h1, h2] at ho
     simp only [cond_false]
     rw [Zagp hx ho]
    ·rw [h1, h2] at ho
     simp only [cond_false, cond_true]
     rw [Z1j hx ho hob (by decide)]; rfl
   ·rw [h1] at ho
    simp only [cond_true]
    rw [Z1j hx ho hob (by decide)]; rfl)
  refine Eq.trans r (Zbf ?_)
  rw [List.take_length]
  show (Zsk _ _ _ _ _ _).den = _
  (dsimp only [Zsk, LT.den]; unfold vC)
  rw [decide_eq_false (by omega), cond_false, Zcz h.2.2.2.1.1 (by decide), Option.bind_some]
  cases g.Pending.Player == p <;> rfl
 have l0 : ∀ Z, Za4 Zqz.step (.L0 p g Z g.State (vB g.State p [] [] [] noC) 0) = some (vOf rK g p) := fun Z => by
  have r := Zkz (step := Zqz.step) (st := fun (i : Nat) (v : Zs) => .L0 p g Z g.State v (i : Int)) g.State.Players.length (fun i => vB g.State p ((g.State.Players.map Zh3).take i) [] [] noC) (fun i hi => by
   have hx := List.getElem?_eq_getElem hi
   generalize g.State.Players[i] = x at hx
   have hs := Zan0 hx hpl
   show (Zsj _ _ _ _ _ _).den = _
   dsimp only [Zsj, LT.den]
   rw [decide_eq_true (show (i : Int) < (g.State.Players.length : Int) by omega), cond_true, Zag hx, Option.bind_some]
   rw [show (⟨x.Life, x.Venom, x.Lands, (x.Library.length : Int), (x.Hand.length : Int), x.Pool, x.Lost, x.Graveyard⟩ : Zbz) = Zh3 x from rfl]
   show Option.bind (app? 120 ((g.State.Players.map Zh3).take i) [Zh3 x]) _ = _
   rw [hs, Option.bind_some, Zaw hi (by omega)])
  refine Eq.trans r ?_
  rw [Zdg (s' := .L2 p g Z g.State (vB g.State p (g.State.Players.map Zh3) (Zon g.State.Players p g.State.Players.length) [] noC) 0)]
  ·exact l1 _ _ _
  ·show (Zsj _ _ _ _ _ _).den = _
   (dsimp only [Zsj, LT.den]; dsimp only [Zsi, LT.den])
   rw [decide_eq_false (by omega), cond_false, List.take_of_length_le (by rw [List.length_map]; exact Nat.le_refl _), Zarr]
   by_cases h0 : 0 ≤ p
   ·rw [decide_eq_true (show p ≥ 0 from h0), if_pos h0, cond_true]
    by_cases h1 : p < (g.State.Players.length : Int)
    ·obtain ⟨y, hy, hm, hg⟩ := tI h0 h1
     rw [decide_eq_true h1, cond_true, hy, Option.bind_some, hg]
    ·rw [decide_eq_false h1, cond_false, List.getElem?_eq_none (by omega)]
   ·rw [decide_eq_false (show ¬ p ≥ 0 from h0), if_neg h0]; rfl
 (unfold Zac1 LF.run; dsimp only [Zak7, LT.den])
 rw [Zanf _ h.2.1, Option.bind_some, Option.bind_some, Zbt]
 exact l0 _
end Go.PW
