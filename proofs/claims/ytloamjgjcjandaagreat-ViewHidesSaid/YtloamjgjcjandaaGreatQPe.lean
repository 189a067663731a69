import Derived.Test.YtloamjgjcjandaaGreatQPd
set_option linter.all false
set_option maxRecDepth 100000
namespace Go.PW
theorem Zamr {α : Type} {b : List α} {i k : Nat} {x : α} {P : α → Bool} (h : b[i]? = some x) (hp : P x = true) (hb : b.length * k ≤ 140737488351232) (hk : 0 < k) : app? k ((b.take i).filter P) [x] = some ((b.take (i + 1)).filter P) := by
 have hi := (List.getElem?_eq_some_iff.1 h).1
 have h1 : ((b.take i).filter P).length ≤ i := Nat.le_trans (List.length_filter_le _ _) (by rw [List.length_take]; omega)
 rw [Zads _ hk, List.take_add_one, h, List.filter_append]
 ·simp [hp]
 ·have := Nat.mul_le_mul_right k (show ((b.take i).filter P).length + [x].length ≤ b.length by simp only [List.length_cons, List.length_nil]; omega)
  omega
theorem Zarb {α : Type} {b : List α} {i : Nat} {x : α} {P : α → Bool} (h : b[i]? = some x) (hp : P x = false) : (b.take (i + 1)).filter P = (b.take i).filter P := by
 rw [List.take_add_one, h, List.filter_append]
 simp [hp]
def Zxe (g : Z0) (p id : Int) : Bool := g.Pending.Kind != 0 && (g.Pending.Player == p && g.Pending.Options.any fun o => o.Kind == 5 && o.A == id)
theorem Zams (o : Z7) (id : Int) : Zo7 o id = some (o.Kind == 5 && o.A == id) := by
 (unfold Zo7 LF.run; dsimp only [Zs4, LT.den])
 cases o.Kind == 5 <;> rfl
theorem Zamt (l : List Z7) (id : Int) (h : l.length * 24 ≤ 140737488351232) : Zch l id = some (l.any (fun o => o.Kind == 5 && o.A == id), id) := by
 have hf := Ztb (step := Zam.step) l (fun i : Nat => .L0 l id (l.length : Int) (i : Int)) (fun i => ((i : Int), id)) (fun o => o.Kind == 5 && o.A == id) (fun i x hx => by
  have hi := (List.getElem?_eq_some_iff.1 hx).1
  show (Zbg _ _ _ _).den = _
  dsimp only [Zbg, LT.den]
  rw [decide_eq_true (show (i : Int) < (l.length : Int) by omega), cond_true, Z8 hx, Option.bind_some, Zams, Option.bind_some, Zat hi (by omega)]
  cases (x.Kind == 5 && x.A == id) <;> rfl)
 (unfold Zch LF.run; dsimp only [Zdp, LT.den]; unfold Zea LF.run; dsimp only [Zdz, LT.den])
 rw [Option.bind_some (f := Zls Zam.step), Zbb]
 rcases hf with ⟨h1, i, h2, h3⟩ | ⟨h1, h2⟩
 ·rw [show Zaw Zam.step (.L0 l id (l.length : Int) 0) = some ((i : Int), id) from h3, h1]
  simp only [Option.bind_some, Zcz]
  rw [decide_eq_true (by omega)]
 ·have he : Zaw Zam.step (.L0 l id (l.length : Int) (l.length : Int)) = some (-1, id) := Za7 (by
   show (Zbg _ _ _ _).den = _
   dsimp only [Zbg, LT.den]
   rw [decide_eq_false (by omega)]; rfl)
  rw [show Zaw Zam.step (.L0 l id (l.length : Int) 0) = some (-1, id) from h2.trans he, h1]; rfl
theorem Zan2 (g : Z0) (p id : Int) (h : Zfy g) : Zk6 id g p = some (Zxe g p id) := by
 (unfold Zk6 LF.run; dsimp only [Zpn, LT.den]; unfold Zxe)
 rw [Zamt _ _ h.2.2.2.1.1, Option.bind_some]
 cases g.Pending.Kind != 0 <;> cases g.Pending.Player == p <;> rfl
def Ziy (x : Zv) : Zb4 := ⟨x.Life, x.Venom, x.Lands, (x.Library.length : Int), (x.Hand.length : Int), x.Pool, x.Lost, x.Graveyard⟩
def Znn (l : List Zv) (p : Int) (i : Nat) : List Int := if 0 ≤ p ∧ p < i then (match l[p.toNat]? with | some x => x.Hand | none => []) else []
abbrev vB (s : Za) (p : Int) (P : List Zb4) (H : List Int) (O : List Zh) (C : Za9) : Zab := ⟨p, P, H, O, s.Battlefield, s.Exile, s.Stack, s.Waiting, s.Conts, s.Turn, s.Active, s.Step, s.Priority, s.Passes, s.NextId, s.Over, s.Winner, s.Extra, C⟩
def vC (g : Z0) (p : Int) : Za9 := bif g.Pending.Player == p then g.Pending else ⟨g.Pending.Kind, g.Pending.Player, 0, 0, 0, 0, []⟩
def vOf (K : Za → Int → Int → Bool) (g : Z0) (p : Int) : Zab := vB g.State p (g.State.Players.map Ziy) (Znn g.State.Players p g.State.Players.length) (g.State.Objects.filter fun o => K g.State p o.Id || Zxe g p o.Id) (vC g p)
def oP (K : Za → Int → Int → Bool) (g : Z0) (p : Int) (o : Zh) : Bool := K g.State p o.Id || Zxe g p o.Id
theorem Zato {l : List Zv} {p : Int} {i : Nat} {x : Zv} (h : l[i]? = some x) (e : (i : Int) = p) : Znn l p (i + 1) = x.Hand := by
 subst e
 unfold Znn
 rw [if_pos (by omega), Int.toNat_natCast, h]
theorem Zatp {l : List Zv} {p : Int} {i : Nat} (e : (i : Int) ≠ p) : Znn l p (i + 1) = Znn l p i := by
 unfold Znn
 by_cases h : 0 ≤ p ∧ p < (i : Int)
 ·rw [if_pos h, if_pos (by omega)]
 ·rw [if_neg h, if_neg (by omega)]
theorem Zatq {l : List Zv} {i : Nat} {x : Zv} (h : l[i]? = some x) (hl : l.length * 152 ≤ 140737488351232) : app? 120 ((l.map Ziy).take i) [Ziy x] = some ((l.map Ziy).take (i + 1)) :=
 Zrt (by rw [List.getElem?_map, h]; rfl) (by rw [List.length_map]; omega) (by decide)
abbrev noC : Za9 := ⟨0, 0, 0, 0, 0, 0, []⟩
theorem Zve (g : Z0) (p : Int) (h : Zfy g) : Z6o g p = some (vOf vK g p) := by
 have hpl : g.State.Players.length * 152 ≤ 140737488351232 := h.2.1.1.1
 have hob : g.State.Objects.length * 128 ≤ 140737488351232 := h.2.1.2.1.1
 have l1 : ∀ Z V H, Zaw Zpp.step (.L1 g p Z g.State (vB g.State p V H [] noC) g.State.Objects (g.State.Objects.length : Int) 0) = some (vB g.State p V H (g.State.Objects.filter (oP vK g p)) (vC g p)) := fun Z V H => by
  have r := Zop (step := Zpp.step) (st := fun (i : Nat) (v : Zab) => .L1 g p Z g.State v g.State.Objects (g.State.Objects.length : Int) (i : Int)) g.State.Objects.length (fun i => vB g.State p V H ((g.State.Objects.take i).filter (oP vK g p)) noC) (fun i hi => by
   have hx := List.getElem?_eq_getElem hi
   generalize g.State.Objects[i] = x at hx
   show (Zqg _ _ _ _ _ _ _ _).den = _
   dsimp only [Zqg, LT.den]
   rw [decide_eq_true (show (i : Int) < (g.State.Objects.length : Int) by omega), cond_true, Z8 hx, Option.bind_some, Zox _ _ _ h.2.1, Option.bind_some, Zan2 _ _ _ h, Option.bind_some, Zat hi (by omega)]
   have ho : oP vK g p x = (vK g.State p x.Id || Zxe g p x.Id) := rfl
   cases h1 : vK g.State p x.Id
   ·cases h2 : Zxe g p x.Id
    ·rw [h1, h2] at ho
     simp only [cond_false]
     rw [Zarb hx ho]
    ·rw [h1, h2] at ho
     simp only [cond_false, cond_true]
     rw [Zamr hx ho hob (by decide)]; rfl
   ·rw [h1] at ho
    simp only [cond_true]
    rw [Zamr hx ho hob (by decide)]; rfl)
  refine Eq.trans r (Za7 ?_)
  rw [List.take_length]
  show (Zqg _ _ _ _ _ _ _ _).den = _
  (dsimp only [Zqg, LT.den]; unfold vC)
  rw [decide_eq_false (by omega), cond_false, Zki _ h.2.2.2.1.1, Option.bind_some]
  cases g.Pending.Player == p <;> rfl
 have l0 : ∀ Z, Zaw Zpp.step (.L0 g p Z g.State (vB g.State p [] [] [] noC) g.State.Players (g.State.Players.length : Int) 0) = some (vOf vK g p) := fun Z => by
  have e0 : Znn g.State.Players p 0 = [] := by unfold Znn; rw [if_neg (by omega)]
  have r := Zop (step := Zpp.step) (st := fun (i : Nat) (v : Zab) => .L0 g p Z g.State v g.State.Players (g.State.Players.length : Int) (i : Int)) g.State.Players.length (fun i => vB g.State p ((g.State.Players.map Ziy).take i) (Znn g.State.Players p i) [] noC) (fun i hi => by
   have hx := List.getElem?_eq_getElem hi
   generalize g.State.Players[i] = x at hx
   have hs := Zatq hx hpl
   show (Zqf _ _ _ _ _ _ _ _).den = _
   dsimp only [Zqf, LT.den]
   rw [decide_eq_true (show (i : Int) < (g.State.Players.length : Int) by omega), cond_true, Z8 hx, Option.bind_some]
   rw [show (⟨x.Life, x.Venom, x.Lands, (x.Library.length : Int), (x.Hand.length : Int), x.Pool, x.Lost, x.Graveyard⟩ : Zb4) = Ziy x from rfl]
   show Option.bind (app? 120 ((g.State.Players.map Ziy).take i) [Ziy x]) _ = _
   rw [hs, Option.bind_some, Zat hi (by omega)]
   by_cases e : (i : Int) = p
   ·rw [show ((i : Int) == p) = true from decide_eq_true e, Zato hx e]; rfl
   ·rw [show ((i : Int) == p) = false from decide_eq_false e, Zatp e]; rfl)
  rw [e0] at r
  refine Eq.trans r ?_
  rw [Zcw (s' := .L1 g p Z g.State (vB g.State p (g.State.Players.map Ziy) (Znn g.State.Players p g.State.Players.length) [] noC) g.State.Objects (g.State.Objects.length : Int) 0)]
  ·exact l1 _ _ _
  ·show (Zqf _ _ _ _ _ _ _ _).den = _
   dsimp only [Zqf, LT.den]
   rw [decide_eq_false (by omega), cond_false, List.take_of_length_le (by rw [List.length_map]; exact Nat.le_refl _)]
 (unfold Z6o LF.run; dsimp only [Zagw, LT.den])
 rw [Zamn _ h.2.1, Option.bind_some, Option.bind_some, Zbb]
 exact l0 _
end Go.PW
