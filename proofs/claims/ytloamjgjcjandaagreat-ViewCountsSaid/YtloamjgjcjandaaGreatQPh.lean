import Derived.Test.YtloamjgjcjandaaGreatQPg
set_option linter.all false
set_option maxRecDepth 100000
namespace Go.PW
theorem Zbp8 {α : Type} {b : List α} {i : Nat} {x : α} {P : α → Bool} (h : b[i]? = some x) (hp : P x = true) : (b.filter P)[((b.take i).filter P).length]? = some x := by
 obtain ⟨hi, hx⟩ := List.getElem?_eq_some_iff.1 h
 have e : b = b.take i ++ (x :: b.drop (i + 1)) := by
  conv => lhs; rw [← List.take_append_drop i b]
  rw [List.drop_eq_getElem_cons hi, hx]
 have e2 : b.filter P = (b.take i).filter P ++ (x :: (b.drop (i + 1)).filter P) := by
  conv => lhs; rw [e]
  rw [List.filter_append, List.filter_cons, if_pos hp]
 rw [e2, List.getElem?_append_right (Nat.le_refl _), Nat.sub_self]; rfl
theorem Zbo4 {α : Type} {b : List α} {i : Nat} {x : α} {P : α → Bool} (h : b[i]? = some x) (hp : P x = true) : ((b.take (i + 1)).filter P).length = ((b.take i).filter P).length + 1 := by
 rw [List.take_add_one, h, List.filter_append]
 simp [hp]
theorem Zbhf (g : Zab) (p : Int) (i : Nat) (x : Zf) (h : Znk g) (hx : g.State.Objects[i]? = some x) : Zafe g p (i : Int) = some (oP rK g p x) := by
 have hl : g.Pending.Options.length * 24 ≤ 140737488351232 := h.2.2.2.1.1
 unfold Zafe Zag6
 rw [Zb8 hx, Option.bind_some, Zbg9 _ _ _ h.2.1, Option.bind_some]
 unfold oP
 cases rK g.State p x.Id
 ·rw [cond_false, Option.bind_some, Zde, Bool.false_or]
  unfold offB
  have hend : runO Zyc (.L0 p (i : Int) g (g.Pending.Options.length : Int)) = some false := Zct (by
   show Zko _ _ _ _ = _
   unfold Zko
   rw [decide_eq_false (by omega)]; rfl)
  by_cases e : g.Pending.Options = []
  ·rw [e] at hend
   rw [show runO Zyc (.L0 p (i : Int) g 0) = some false from hend, e]
   cases g.Pending.Kind != 0 <;> cases g.Pending.Player == p <;> rfl
  ·cases hk : (g.Pending.Kind != 0)
   ·refine Zct ?_
    show Zko _ _ _ _ = _
    unfold Zko
    rw [decide_eq_true (by have := List.length_pos_iff.2 e; omega), hk]; rfl
   ·cases hq : g.Pending.Player == p
    ·refine Zct ?_
     show Zko _ _ _ _ = _
     unfold Zko
     rw [decide_eq_true (by have := List.length_pos_iff.2 e; omega), hk, hq]; rfl
    ·have hf := Z7l (step := Zyc) g.Pending.Options (fun j : Nat => .L0 p (i : Int) g (j : Int)) (fun i => true) (fun o => o.Kind == 5 && o.A == x.Id) (fun j y hy => by
      have hi := (List.getElem?_eq_some_iff.1 hy).1
      show Zko _ _ _ _ = _
      unfold Zko
      rw [decide_eq_true (show (j : Int) < (g.Pending.Options.length : Int) by omega), cond_true, hk, hq, cond_true, cond_true, Zb8 hy, Option.bind_some, Zb8 hx, Option.bind_some, Zc2 hi (by omega)]
      cases y.Kind == 5 <;> cases y.A == x.Id <;> rfl)
     rcases hf with ⟨h1, j, h2, h3⟩ | ⟨h1, h2⟩
     ·exact h3.trans (by rw [h1]; rfl)
     ·exact (h2.trans hend).trans (by rw [h1]; rfl)
 ·rfl
theorem Za66 (g : Zab) (p : Int) (h : Znk g) : Z5o g p = some true := by
 unfold Z5o Z0r
 obtain ⟨b, hb, _⟩ := Zbkk g h
 rw [hb, Option.bind_some, Zbk2]
 cases b
 ·rfl
 have hv := Zbrs g h hb
 have hob : g.State.Objects.length * 128 ≤ 140737488351232 := h.2.1.2.1.1
 have hpl : g.State.Players.length * 152 ≤ 140737488351232 := h.2.1.1.1
 rw [Bool.not_true, cond_false, Zaml _ _ h, Option.bind_some, Zbrt hv]
 rw [show ((vOf rK g p).Players.length : Int) = (g.State.Players.length : Int) from by show ((g.State.Players.map Zoj).length : Int) = _; rw [List.length_map]]
 rw [int_bne', decide_eq_true rfl, Bool.not_true, cond_false, Option.bind_some, Zde]
 have r := Z98 (step := Zve) (st := fun (i : Nat) (_ : Unit) => .L0 p g (vOf rK g p) (i : Int)) g.State.Players.length (fun _ => ()) (fun i hi => by
  have hx := List.getElem?_eq_getElem hi
  generalize g.State.Players[i] = x at hx
  have hy : (vOf rK g p).Players[i]? = some (Zoj x) := by show (g.State.Players.map Zoj)[i]? = _; rw [List.getElem?_map, hx]; rfl
  show Zme _ _ _ _ = _
  unfold Zme
  rw [show ((vOf rK g p).Players.length : Int) = (g.State.Players.length : Int) from by show ((g.State.Players.map Zoj).length : Int) = _; rw [List.length_map]]
  rw [decide_eq_true (show (i : Int) < (g.State.Players.length : Int) by omega), cond_true, Zb8 hx, Option.bind_some, Zb8 hy, Option.bind_some, Zc2 hi (by omega)]
  simp only [Zoj, int_bne', decide_eq_true rfl, Bool.not_true, cond_false, decide_true])
 refine Eq.trans r ?_
 rw [Zli (s' := .L1 p g (vOf rK g p) 0 0) (by
  show Zme _ _ _ _ = _
  unfold Zme
  rw [show ((vOf rK g p).Players.length : Int) = (g.State.Players.length : Int) from by show ((g.State.Players.map Zoj).length : Int) = _; rw [List.length_map]]
  rw [decide_eq_false (by omega)]; rfl)]
 have hO : (vOf rK g p).Objects = g.State.Objects.filter (oP rK g p) := rfl
 have r2 := Z98 (step := Zve) (st := fun (i : Nat) (n : Nat) => .L1 p g (vOf rK g p) (n : Int) (i : Int)) g.State.Objects.length (fun i => ((g.State.Objects.take i).filter (oP rK g p)).length) (fun i hi => by
  have hx := List.getElem?_eq_getElem hi
  generalize g.State.Objects[i] = x at hx
  show Zmf _ _ _ _ _ = _
  unfold Zmf
  rw [decide_eq_true (show (i : Int) < (g.State.Objects.length : Int) by omega), cond_true, Zbhf g p i x h hx, Option.bind_some, Zc2 hi (by omega)]
  cases ho : oP rK g p x
  ·rw [cond_false, Za74 hx ho]
  ·have hat := Zbp8 (P := oP rK g p) hx ho
   have hlt := (List.getElem?_eq_some_iff.1 hat).1
   have hle := List.length_filter_le (oP rK g p) g.State.Objects
   rw [cond_true, hO, decide_eq_false (by omega), cond_false, Zb8 hat, Option.bind_some, Zb8 hx, Option.bind_some, Zams, decide_eq_true rfl, Bool.not_true, cond_false, Zbo4 hx ho, Zc2 hlt (by omega)])
 refine Eq.trans r2 (Zct ?_)
 show Zmf _ _ _ _ _ = _
 unfold Zmf
 rw [List.take_length, hO, decide_eq_false (show ¬ (g.State.Objects.length : Int) < (g.State.Objects.length : Int) by omega), cond_false, Zrn, decide_eq_true rfl, cond_true, Zbk2]
 cases hq : (p == g.Pending.Player)
 ·have : (vOf rK g p).Pending.Options = [] := by
   show (vC g p).Options = []
   unfold vC
   rw [show (g.Pending.Player == p) = (p == g.Pending.Player) from by simp only [Zrn]; rw [decide_eq_decide]; exact ⟨Eq.symm, Eq.symm⟩, hq]; rfl
  rw [this]; rfl
 ·rfl
end Go.PW
