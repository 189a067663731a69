import Derived.Test.YtloamjgjcjandaaGreatQPd
set_option linter.all false
set_option maxRecDepth 100000
namespace Go.PW
theorem Zbhb {α : Type} {b : List α} {i k : Nat} {x : α} {P : α → Bool} (h : b[i]? = some x) (hp : P x = true) (hb : b.length * k ≤ 140737488351232) (hk : 0 < k) : app? k ((b.take i).filter P) [x] = some ((b.take (i + 1)).filter P) := by
 have hi := (List.getElem?_eq_some_iff.1 h).1
 have h1 : ((b.take i).filter P).length ≤ i := Nat.le_trans (List.length_filter_le _ _) (by rw [List.length_take]; omega)
 rw [Zazz _ hk, List.take_add_one, h, List.filter_append]
 ·simp [hp]
 ·have := Nat.mul_le_mul_right k (show ((b.take i).filter P).length + [x].length ≤ b.length by simp only [List.length_cons, List.length_nil]; omega)
  omega
theorem Za74 {α : Type} {b : List α} {i : Nat} {x : α} {P : α → Bool} (h : b[i]? = some x) (hp : P x = false) : (b.take (i + 1)).filter P = (b.take i).filter P := by
 rw [List.take_add_one, h, List.filter_append]
 simp [hp]
def offB (g : Zab) (p id : Int) : Bool := g.Pending.Kind != 0 && (g.Pending.Player == p && g.Pending.Options.any fun o => o.Kind == 5 && o.A == id)
theorem Zbhc (o : Z5) (id : Int) : Ztl o id = some (o.Kind == 5 && o.A == id) := by
 unfold Ztl Zwu
 cases o.Kind == 5 <;> rfl
theorem Zbhd (l : List Z5) (id : Int) (h : l.length * 24 ≤ 140737488351232) : Zcw l id = some (l.any (fun o => o.Kind == 5 && o.A == id), id) := by
 have hf := Z7l (step := Zba) l (fun i : Nat => .L0 l id (l.length : Int) (i : Int)) (fun i => ((i : Int), id)) (fun o => o.Kind == 5 && o.A == id) (fun i x hx => by
  have hi := (List.getElem?_eq_some_iff.1 hx).1
  show Zbd _ _ _ _ = _
  unfold Zbd
  rw [decide_eq_true (show (i : Int) < (l.length : Int) by omega), cond_true, Zb8 hx, Option.bind_some, Zbhc, Option.bind_some, Zc2 hi (by omega)]
  cases (x.Kind == 5 && x.A == id) <;> rfl)
 unfold Zcw Zeb Ze7 Zew
 rw [Option.bind_some (f := endO Zba), Zde]
 rcases hf with ⟨h1, i, h2, h3⟩ | ⟨h1, h2⟩
 ·rw [show runO Zba (.L0 l id (l.length : Int) 0) = some ((i : Int), id) from h3, h1]
  simp only [Option.bind_some, Zjv]
  rw [decide_eq_true (by omega)]
 ·have he : runO Zba (.L0 l id (l.length : Int) (l.length : Int)) = some (-1, id) := Zct (by
   show Zbd _ _ _ _ = _
   unfold Zbd
   rw [decide_eq_false (by omega)]; rfl)
  rw [show runO Zba (.L0 l id (l.length : Int) 0) = some (-1, id) from h2.trans he, h1]; rfl
theorem Zbkm (g : Zab) (p id : Int) (h : Znk g) : Zpw id g p = some (offB g p id) := by
 unfold Zpw Zr2 offB
 rw [Zbhd _ _ h.2.2.2.1.1, Option.bind_some]
 cases g.Pending.Kind != 0 <;> cases g.Pending.Player == p <;> rfl
def Zoj (x : Zaa) : Zcy := ⟨x.Life, x.Venom, x.Lands, (x.Library.length : Int), (x.Hand.length : Int), x.Pool, x.Lost, x.Graveyard⟩
def hdAt (l : List Zaa) (p : Int) (i : Nat) : List Int := if 0 ≤ p ∧ p < i then (match l[p.toNat]? with | some x => x.Hand | none => []) else []
abbrev vB (s : Zd) (p : Int) (P : List Zcy) (H : List Int) (O : List Zf) (C : Zdf) : Zas := ⟨p, P, H, O, s.Battlefield, s.Exile, s.Stack, s.Waiting, s.Conts, s.Turn, s.Active, s.Step, s.Priority, s.Passes, s.NextId, s.Over, s.Winner, s.Extra, C⟩
def vC (g : Zab) (p : Int) : Zdf := bif g.Pending.Player == p then g.Pending else ⟨g.Pending.Kind, g.Pending.Player, 0, 0, 0, 0, []⟩
def vOf (K : Zd → Int → Int → Bool) (g : Zab) (p : Int) : Zas := vB g.State p (g.State.Players.map Zoj) (hdAt g.State.Players p g.State.Players.length) (g.State.Objects.filter fun o => K g.State p o.Id || offB g p o.Id) (vC g p)
def oP (K : Zd → Int → Int → Bool) (g : Zab) (p : Int) (o : Zf) : Bool := K g.State p o.Id || offB g p o.Id
theorem Zbp5 {l : List Zaa} {p : Int} {i : Nat} {x : Zaa} (h : l[i]? = some x) (e : (i : Int) = p) : hdAt l p (i + 1) = x.Hand := by
 subst e
 unfold hdAt
 rw [if_pos (by omega), Int.toNat_natCast, h]
theorem Zbp6 {l : List Zaa} {p : Int} {i : Nat} (e : (i : Int) ≠ p) : hdAt l p (i + 1) = hdAt l p i := by
 unfold hdAt
 by_cases h : 0 ≤ p ∧ p < (i : Int)
 ·rw [if_pos h, if_pos (by omega)]
 ·rw [if_neg h, if_neg (by omega)]
theorem Zbp7 {l : List Zaa} {i : Nat} {x : Zaa} (h : l[i]? = some x) (hl : l.length * 152 ≤ 140737488351232) : app? 120 ((l.map Zoj).take i) [Zoj x] = some ((l.map Zoj).take (i + 1)) :=
 Zbo2 (by rw [List.getElem?_map, h]; rfl) (by rw [List.length_map]; omega) (by decide)
abbrev noC : Zdf := ⟨0, 0, 0, 0, 0, 0, []⟩
theorem Zaml (g : Zab) (p : Int) (h : Znk g) : Z5m g p = some (vOf vK g p) := by
 have hpl : g.State.Players.length * 152 ≤ 140737488351232 := h.2.1.1.1
 have hob : g.State.Objects.length * 128 ≤ 140737488351232 := h.2.1.2.1.1
 have l1 : ∀ Z V H, runO Zwv (.L1 g p Z g.State (vB g.State p V H [] noC) g.State.Objects (g.State.Objects.length : Int) 0) = some (vB g.State p V H (g.State.Objects.filter (oP vK g p)) (vC g p)) := fun Z V H => by
  have r := Z98 (step := Zwv) (st := fun (i : Nat) (v : Zas) => .L1 g p Z g.State v g.State.Objects (g.State.Objects.length : Int) (i : Int)) g.State.Objects.length (fun i => vB g.State p V H ((g.State.Objects.take i).filter (oP vK g p)) noC) (fun i hi => by
   have hx := List.getElem?_eq_getElem hi
   generalize g.State.Objects[i] = x at hx
   show Zyb _ _ _ _ _ _ _ _ = _
   unfold Zyb
   rw [decide_eq_true (show (i : Int) < (g.State.Objects.length : Int) by omega), cond_true, Zb8 hx, Option.bind_some, Z0k _ _ _ h.2.1, Option.bind_some, Zbkm _ _ _ h, Option.bind_some, Zc2 hi (by omega)]
   have ho : oP vK g p x = (vK g.State p x.Id || offB g p x.Id) := rfl
   cases h1 : vK g.State p x.Id
   ·cases h2 : offB g p x.Id
    ·rw [h1, h2] at ho
     simp only [cond_false]
     rw [Za74 hx ho]
    ·rw [h1, h2] at ho
     simp only [cond_false, cond_true]
     rw [Zbhb hx ho hob (by decide)]; rfl
   ·rw [h1] at ho
    simp only [cond_true]
    rw [Zbhb hx ho hob (by decide)]; rfl)
  refine Eq.trans r (Zct ?_)
  rw [List.take_length]
  show Zyb _ _ _ _ _ _ _ _ = _
  unfold Zyb vC
  rw [decide_eq_false (by omega), cond_false, Zub _ h.2.2.2.1.1, Option.bind_some]
  cases g.Pending.Player == p <;> rfl
 have l0 : ∀ Z, runO Zwv (.L0 g p Z g.State (vB g.State p [] [] [] noC) g.State.Players (g.State.Players.length : Int) 0) = some (vOf vK g p) := fun Z => by
  have e0 : hdAt g.State.Players p 0 = [] := by unfold hdAt; rw [if_neg (by omega)]
  have r := Z98 (step := Zwv) (st := fun (i : Nat) (v : Zas) => .L0 g p Z g.State v g.State.Players (g.State.Players.length : Int) (i : Int)) g.State.Players.length (fun i => vB g.State p ((g.State.Players.map Zoj).take i) (hdAt g.State.Players p i) [] noC) (fun i hi => by
   have hx := List.getElem?_eq_getElem hi
   generalize g.State.Players[i] = x at hx
   have hs := Zbp7 hx hpl
   show Zya _ _ _ _ _ _ _ _ = _
   unfold Zya
   rw [decide_eq_true (show (i : Int) < (g.State.Players.length : Int) by omega), cond_true, Zb8 hx, Option.bind_some]
   rw [show (⟨x.Life, x.Venom, x.Lands, (x.Library.length : Int), (x.Hand.length : Int), x.Pool, x.Lost, x.Graveyard⟩ : Zcy) = Zoj x from rfl]
   show Option.bind (app? 120 ((g.State.Players.map Zoj).take i) [Zoj x]) _ = _
   rw [hs, Option.bind_some, Zc2 hi (by omega)]
   by_cases e : (i : Int) = p
   ·rw [show ((i : Int) == p) = true from decide_eq_true e, Zbp5 hx e]; rfl
   ·rw [show ((i : Int) == p) = false from decide_eq_false e, Zbp6 e]; rfl)
  rw [e0] at r
  refine Eq.trans r ?_
  rw [Zli (s' := .L1 g p Z g.State (vB g.State p (g.State.Players.map Zoj) (hdAt g.State.Players p g.State.Players.length) [] noC) g.State.Objects (g.State.Objects.length : Int) 0)]
  ·exact l1 _ _ _
  ·show Zya _ _ _ _ _ _ _ _ = _
   unfold Zya
   rw [decide_eq_false (by omega), cond_false, List.take_of_length_le (by rw [List.length_map]; exact Nat.le_refl _)]
 unfold Z5m Zapc
 rw [Zbg7 _ h.2.1, Option.bind_some, Option.bind_some, Zde]
 exact l0 _
theorem Zbrt {g : Zab} (h : VS g.State) (p : Int) : vOf vK g p = vOf rK g p := by
 unfold vOf
 rw [show (fun o : Zf => vK g.State p o.Id || offB g p o.Id) = fun o => rK g.State p o.Id || offB g p o.Id from funext fun o => by rw [Zbr2 h]]
end Go.PW
