import Derived.Test.YtloamjgjcjandaaGreatQPe
set_option linter.all false
set_option maxRecDepth 100000
namespace Go.PW
theorem Zbkn (a b : List Int) (h : a.length * 8 ≤ 140737488351232) : Zak4 a b = some (decide (a = b)) := by
 unfold Zak4 Zak3
 rw [Zp2]
 by_cases hl : a.length = b.length
 ·rw [decide_eq_false (show ¬ a.length ≠ b.length from fun e => e hl), cond_false, Option.bind_some, Zde]
  have r := Zn7 (step := Z8d) (st := fun i : Nat => Zly.L0 a b (i : Int)) (bad := false) a b hl (fun i x y hx hy hm => by
   have hi := (List.getElem?_eq_some_iff.1 hx).1
   show Zu4 _ _ _ = _
   unfold Zu4
   rw [decide_eq_true (show (i : Int) < (a.length : Int) by omega), cond_true, Zb8 hx, Option.bind_some, Zb8 hy, Option.bind_some, int_bne', Zc2 hi (by omega)]
   cases decide (x = y) <;> rfl)
  refine Eq.trans r ?_
  have he : runO Z8d (Zly.L0 a b (a.length : Int)) = some true := Zct (by
   show Zu4 _ _ _ = _
   unfold Zu4
   rw [decide_eq_false (by omega)]; rfl)
  rw [he]
  cases decide (a = b) <;> rfl
 ·rw [decide_eq_true hl, Zp1 hl]; rfl
theorem Zasf (x y : Zas) (hx : Zav4 x) : Z7v x y = some (decide (x = y)) := by
 unfold Z7v Zag2 Zns
 simp only [Zge x.Hand y.Hand hx.2.1.1, Zuc x.Objects y.Objects hx.2.2.1.1, Zge x.Battlefield y.Battlefield hx.2.2.2.1.1, Zge x.Exile y.Exile hx.2.2.2.2.1.1, Zge x.Extra y.Extra hx.2.2.2.2.2.2.2.2.1.1, Ziy x.Players y.Players hx.1.1 hx.1.2, Ziz x.Stack y.Stack hx.2.2.2.2.2.1.1 hx.2.2.2.2.2.1.2, Zgj x.Waiting y.Waiting hx.2.2.2.2.2.2.1.1 hx.2.2.2.2.2.2.1.2, Zi0 x.Conts y.Conts hx.2.2.2.2.2.2.2.1.1 hx.2.2.2.2.2.2.2.1.2, Zasd x.Pending y.Pending hx.2.2.2.2.2.2.2.2.2, Zrn, Z0n, int_bne', Z47, Option.bind_some, Zwh, Zjv, Zx5]
 simp only [cond_false, Zx5]
 congr 1
 rw [decide_eq_decide]
 obtain ⟨a0, a1, a2, a3, a4, a5, a6, a7, a8, a9, a10, a11, a12, a13, a14, a15, a16, a17, a18⟩ := x
 obtain ⟨b0, b1, b2, b3, b4, b5, b6, b7, b8, b9, b10, b11, b12, b13, b14, b15, b16, b17, b18⟩ := y
 simp only [Zas.mk.injEq]
 simp only [and_assoc, and_comm, and_left_comm]
end Go.PW
