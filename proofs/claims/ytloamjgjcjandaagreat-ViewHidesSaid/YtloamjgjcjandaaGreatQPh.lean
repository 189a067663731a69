import Derived.Test.YtloamjgjcjandaaGreatQPg
set_option linter.all false
set_option maxRecDepth 100000
namespace Go.PW
theorem Zamw (g : Z0) (p : Int) (i : Nat) (x : Zh) (h : Zfy g) (hx : g.State.Objects[i]? = some x) : Z5g g p (i : Int) = some (oP rK g p x) := by
 have hl : g.Pending.Options.length * 24 ≤ 140737488351232 := h.2.2.2.1.1
 (unfold Z5g LF.run; dsimp only [Z8r, LT.den])
 rw [Z8 hx, Option.bind_some, Zamp _ _ _ h.2.1, Option.bind_some]
 unfold oP
 cases rK g.State p x.Id
 ·rw [cond_false, Option.bind_some, Zbb, Bool.false_or]
  unfold Zxe
  have hend : Zaw Zob.step (.L0 p (i : Int) g (g.Pending.Options.length : Int)) = some false := Za7 (by
   show (Zgp _ _ _ _).den = _
   dsimp only [Zgp, LT.den]
   rw [decide_eq_false (by omega)]; rfl)
  by_cases e : g.Pending.Options = []
  ·rw [e] at hend
   rw [show Zaw Zob.step (.L0 p (i : Int) g 0) = some false from hend, e]
   cases g.Pending.Kind != 0 <;> cases g.Pending.Player == p <;> rfl
  ·cases hk : (g.Pending.Kind != 0)
   ·refine Za7 ?_
    show (Zgp _ _ _ _).den = _
    dsimp only [Zgp, LT.den]
    rw [decide_eq_true (by have := List.length_pos_iff.2 e; omega), hk]; rfl
   ·cases hq : g.Pending.Player == p
    ·refine Za7 ?_
     show (Zgp _ _ _ _).den = _
     dsimp only [Zgp, LT.den]
     rw [decide_eq_true (by have := List.length_pos_iff.2 e; omega), hk, hq]; rfl
    ·have hf := Ztb (step := Zob.step) g.Pending.Options (fun j : Nat => .L0 p (i : Int) g (j : Int)) (fun i => true) (fun o => o.Kind == 5 && o.A == x.Id) (fun j y hy => by
      have hi := (List.getElem?_eq_some_iff.1 hy).1
      show (Zgp _ _ _ _).den = _
      dsimp only [Zgp, LT.den]
      rw [decide_eq_true (show (j : Int) < (g.Pending.Options.length : Int) by omega), cond_true, hk, hq, cond_true, cond_true, Z8 hy, Option.bind_some, Z8 hx, Option.bind_some, Zat hi (by omega)]
      cases y.Kind == 5 <;> cases y.A == x.Id <;> rfl)
     rcases hf with ⟨h1, j, h2, h3⟩ | ⟨h1, h2⟩
     ·exact h3.trans (by rw [h1]; rfl)
     ·exact (h2.trans hend).trans (by rw [h1]; rfl)
 ·rfl
end Go.PW
