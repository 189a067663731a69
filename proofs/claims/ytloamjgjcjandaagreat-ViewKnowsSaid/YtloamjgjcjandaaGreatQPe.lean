import Derived.Test.YtloamjgjcjandaaGreatQPd
set_option linter.all false
set_option maxRecDepth 100000
namespace Go.PW
theorem Zbgu {α : Type} {b : List α} {i k : Nat} {x : α} {P : α → Bool} (h : b[i]? = some x) (hp : P x = true) (hb : b.length * k ≤ 140737488351232) (hk : 0 < k) : app? k ((b.take i).filter P) [x] = some ((b.take (i + 1)).filter P) := by
 have hi := (List.getElem?_eq_some_iff.1 h).1
 have h1 : ((b.take i).filter P).length ≤ i := Nat.le_trans (List.length_filter_le _ _) (by rw [List.length_take]; omega)
 rw [Zazn _ hk, List.take_add_one, h, List.filter_append]
 ·simp [hp]
 ·have := Nat.mul_le_mul_right k (show ((b.take i).filter P).length + [x].length ≤ b.length by simp only [List.length_cons, List.length_nil]; omega)
  omega
theorem Zbnw {α : Type} {b : List α} {i : Nat} {x : α} {P : α → Bool} (h : b[i]? = some x) (hp : P x = false) : (b.take (i + 1)).filter P = (b.take i).filter P := by
 rw [List.take_add_one, h, List.filter_append]
 simp [hp]
def offB (g : Zan) (p id : Int) : Bool := g.Pending.Kind != 0 && (g.Pending.Player == p && g.Pending.Options.any fun o => o.Kind == 5 && o.A == id)
theorem Zbgv (o : Z5) (id : Int) : Zth o id = some (o.Kind == 5 && o.A == id) := by
 unfold Zth Zwo
 cases o.Kind == 5 <;> rfl
theorem Zbgw (l : List Z5) (id : Int) (h : l.length * 24 ≤ 140737488351232) : Zcw l id = some (l.any (fun o => o.Kind == 5 && o.A == id), id) := by
 have hf := Zaeq (step := Zba) l (fun i : Nat => .L0 l id (l.length : Int) (i : Int)) (fun i => ((i : Int), id)) (fun o => o.Kind == 5 && o.A == id) (fun i x hx => by
  have hi := (List.getElem?_eq_some_iff.1 hx).1
  show Zbd _ _ _ _ = _
  unfold Zbd
  rw [decide_eq_true (show (i : Int) < (l.length : Int) by omega), cond_true, Zcs hx, Option.bind_some, Zbgv, Option.bind_some, Zdk hi (by omega)]
  cases (x.Kind == 5 && x.A == id) <;> rfl)
 unfold Zcw Zeb Ze6 Zew
 rw [Option.bind_some (f := endO Zba), Zdh]
 rcases hf with ⟨h1, i, h2, h3⟩ | ⟨h1, h2⟩
 ·rw [show runO Zba (.L0 l id (l.length : Int) 0) = some ((i : Int), id) from h3, h1]
  simp only [Option.bind_some, Zjv]
  rw [decide_eq_true (by omega)]
 ·have he : runO Zba (.L0 l id (l.length : Int) (l.length : Int)) = some (-1, id) := Zdc (by
   show Zbd _ _ _ _ = _
   unfold Zbd
   rw [decide_eq_false (by omega)]; rfl)
  rw [show runO Zba (.L0 l id (l.length : Int) 0) = some (-1, id) from h2.trans he, h1]; rfl
theorem Zbj4 (g : Zan) (p id : Int) (h : Zo7 g) : Zps id g p = some (offB g p id) := by
 unfold Zps Zrz offB
 rw [Zbgw _ _ h.2.2.2.1.1, Option.bind_some]
 cases g.Pending.Kind != 0 <;> cases g.Pending.Player == p <;> rfl
def Zze (x : Zaa) : Zct := ⟨x.Life, x.Venom, x.Lands, (x.Library.length : Int), (x.Hand.length : Int), x.Pool, x.Lost, x.Graveyard⟩
def hdAt (l : List Zaa) (p : Int) (i : Nat) : List Int := if 0 ≤ p ∧ p < i then (match l[p.toNat]? with | some x => x.Hand | none => []) else []
abbrev vB (s : Zc) (p : Int) (P : List Zct) (H : List Int) (O : List Zf) (C : Zdd) : Zaq := ⟨p, P, H, O, s.Battlefield, s.Exile, s.Stack, s.Waiting, s.Conts, s.Turn, s.Active, s.Step, s.Priority, s.Passes, s.NextId, s.Over, s.Winner, s.Extra, C⟩
def vC (g : Zan) (p : Int) : Zdd := bif g.Pending.Player == p then g.Pending else ⟨g.Pending.Kind, g.Pending.Player, 0, 0, 0, 0, []⟩
def vOf (K : Zc → Int → Int → Bool) (g : Zan) (p : Int) : Zaq := vB g.State p (g.State.Players.map Zze) (hdAt g.State.Players p g.State.Players.length) (g.State.Objects.filter fun o => K g.State p o.Id || offB g p o.Id) (vC g p)
def oP (K : Zc → Int → Int → Bool) (g : Zan) (p : Int) (o : Zf) : Bool := K g.State p o.Id || offB g p o.Id
theorem Zbpp {l : List Zaa} {p : Int} {i : Nat} {x : Zaa} (h : l[i]? = some x) (e : (i : Int) = p) : hdAt l p (i + 1) = x.Hand := by
 subst e
 unfold hdAt
 rw [if_pos (by omega), Int.toNat_natCast, h]
theorem Zbpq {l : List Zaa} {p : Int} {i : Nat} (e : (i : Int) ≠ p) : hdAt l p (i + 1) = hdAt l p i := by
 unfold hdAt
 by_cases h : 0 ≤ p ∧ p < (i : Int)
 ·rw [if_pos h, if_pos (by omega)]
 ·rw [if_neg h, if_neg (by omega)]
theorem Zbpr {l : List Zaa} {i : Nat} {x : Zaa} (h : l[i]? = some x) (hl : l.length * 152 ≤ 140737488351232) : app? 120 ((l.map Zze).take i) [Zze x] = some ((l.map Zze).take (i + 1)) :=
 Zbom (by rw [List.getElem?_map, h]; rfl) (by rw [List.length_map]; omega) (by decide)
abbrev noC : Zdd := ⟨0, 0, 0, 0, 0, 0, []⟩
theorem Za3j (g : Zan) (p : Int) (h : Zo7 g) : Zaas g p = some (vOf vK g p) := by
 have hpl : g.State.Players.length * 152 ≤ 140737488351232 := h.2.1.1.1
 have hob : g.State.Objects.length * 128 ≤ 140737488351232 := h.2.1.2.1.1
 have l1 : ∀ Z V H, runO Zwp (.L1 g p Z g.State (vB g.State p V H [] noC) g.State.Objects (g.State.Objects.length : Int) 0) = some (vB g.State p V H (g.State.Objects.filter (oP vK g p)) (vC g p)) := fun Z V H => by
  have r := Zaep (step := Zwp) (st := fun (i : Nat) (v : Zaq) => .L1 g p Z g.State v g.State.Objects (g.State.Objects.length : Int) (i : Int)) g.State.Objects.length (fun i => vB g.State p V H ((g.State.Objects.take i).filter (oP vK g p)) noC) (fun i hi => by
   have hx := List.getElem?_eq_getElem hi
   generalize g.State.Objects[i] = x at hx
   show Zx4 _ _ _ _ _ _ _ _ = _
   unfold Zx4
   rw [decide_eq_true (show (i : Int) < (g.State.Objects.length : Int) by omega), cond_true, Zcs hx, Option.bind_some, Zp4 _ _ _ h.2.1, Option.bind_some, Zbj4 _ _ _ h, Option.bind_some, Zdk hi (by omega)]
   have ho : oP vK g p x = (vK g.State p x.Id || offB g p x.Id) := rfl
   cases h1 : vK g.State p x.Id
   ·cases h2 : offB g p x.Id
    ·rw [h1, h2] at ho
     simp only [cond_false]
     rw [Zbnw hx ho]
    ·rw [h1, h2] at ho
     simp only [cond_false, cond_true]
     rw [Zbgu hx ho hob (by decide)]; rfl
   ·rw [h1] at ho
    simp only [cond_true]
    rw [Zbgu hx ho hob (by decide)]; rfl)
  refine Eq.trans r (Zdc ?_)
  rw [List.take_length]
  show Zx4 _ _ _ _ _ _ _ _ = _
  unfold Zx4 vC
  rw [decide_eq_false (by omega), cond_false, Zt6 _ h.2.2.2.1.1, Option.bind_some]
  cases g.Pending.Player == p <;> rfl
 have l0 : ∀ Z, runO Zwp (.L0 g p Z g.State (vB g.State p [] [] [] noC) g.State.Players (g.State.Players.length : Int) 0) = some (vOf vK g p) := fun Z => by
  have e0 : hdAt g.State.Players p 0 = [] := by unfold hdAt; rw [if_neg (by omega)]
  have r := Zaep (step := Zwp) (st := fun (i : Nat) (v : Zaq) => .L0 g p Z g.State v g.State.Players (g.State.Players.length : Int) (i : Int)) g.State.Players.length (fun i => vB g.State p ((g.State.Players.map Zze).take i) (hdAt g.State.Players p i) [] noC) (fun i hi => by
   have hx := List.getElem?_eq_getElem hi
   generalize g.State.Players[i] = x at hx
   have hs := Zbpr hx hpl
   show Zx3 _ _ _ _ _ _ _ _ = _
   unfold Zx3
   rw [decide_eq_true (show (i : Int) < (g.State.Players.length : Int) by omega), cond_true, Zcs hx, Option.bind_some]
   rw [show (⟨x.Life, x.Venom, x.Lands, (x.Library.length : Int), (x.Hand.length : Int), x.Pool, x.Lost, x.Graveyard⟩ : Zct) = Zze x from rfl]
   show Option.bind (app? 120 ((g.State.Players.map Zze).take i) [Zze x]) _ = _
   rw [hs, Option.bind_some, Zdk hi (by omega)]
   by_cases e : (i : Int) = p
   ·rw [show ((i : Int) == p) = true from decide_eq_true e, Zbpp hx e]; rfl
   ·rw [show ((i : Int) == p) = false from decide_eq_false e, Zbpq e]; rfl)
  rw [e0] at r
  refine Eq.trans r ?_
  rw [Zmm (s' := .L1 g p Z g.State (vB g.State p (g.State.Players.map Zze) (hdAt g.State.Players p g.State.Players.length) [] noC) g.State.Objects (g.State.Objects.length : Int) 0)]
  ·exact l1 _ _ _
  ·show Zx3 _ _ _ _ _ _ _ _ = _
   unfold Zx3
   rw [decide_eq_false (by omega), cond_false, List.take_of_length_le (by rw [List.length_map]; exact Nat.le_refl _)]
 unfold Zaas Zaow
 rw [Zbgr _ h.2.1, Option.bind_some, Option.bind_some, Zdh]
 exact l0 _
end Go.PW
