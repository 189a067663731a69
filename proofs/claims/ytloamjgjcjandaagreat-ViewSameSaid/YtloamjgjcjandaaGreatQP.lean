import Derived.Test.YtloamjgjcjandaaGreatQXb
set_option linter.all false
set_option maxRecDepth 100000
namespace Go.PW
theorem Zj2 (a : List Z0) (h : a.length * 152 ≤ 140737488351232) : Zdc a = some a := by
 unfold Zdc LF.run
 split
 ·dsimp only [Zeh, LT.den]; rw [Zcz h (by decide)]; rfl
 ·rename_i e; have : a = [] := by simpa using e
  subst this; rfl
theorem Zct (a : List Int) (h : a.length * 8 ≤ 140737488351232) : Zfj a = some a := by
 unfold Zfj LF.run
 split
 ·dsimp only [Zht, LT.den]; rw [Zcz h (by decide)]; rfl
 ·rename_i e; have : a = [] := by simpa using e
  subst this; rfl
theorem Zj3 (a : List Zm) (h : a.length * 128 ≤ 140737488351232) : Zdd a = some a := by
 unfold Zdd LF.run
 split
 ·dsimp only [Zei, LT.den]; rw [Zcz h (by decide)]; rfl
 ·rename_i e; have : a = [] := by simpa using e
  subst this; rfl
theorem Zl6 (a : List Z6) (h : a.length * 824 ≤ 140737488351232) : Zd1 a = some a := by
 unfold Zd1 LF.run
 split
 ·dsimp only [Zff, LT.den]; rw [Zcz h (by decide)]; rfl
 ·rename_i e; have : a = [] := by simpa using e
  subst this; rfl
theorem Zfn (a : List Zj) (h : a.length * 176 ≤ 140737488351232) : Zdb a = some a := by
 unfold Zdb LF.run
 split
 ·dsimp only [Zfv, LT.den]; rw [Zcz h (by decide)]; rfl
 ·rename_i e; have : a = [] := by simpa using e
  subst this; rfl
theorem Zl7 (a : List Zaz) (h : a.length * 144 ≤ 140737488351232) : Zd2 a = some a := by
 unfold Zd2 LF.run
 split
 ·dsimp only [Zfg, LT.den]; rw [Zcz h (by decide)]; rfl
 ·rename_i e; have : a = [] := by simpa using e
  subst this; rfl
theorem Zj4 (a : List Zl) (h : a.length * 560 ≤ 140737488351232) : Zde a = some a := by
 unfold Zde LF.run
 split
 ·dsimp only [Zej, LT.den]; rw [Zcz h (by decide)]; rfl
 ·rename_i e; have : a = [] := by simpa using e
  subst this; rfl
theorem Zj5 (a : List Zbb) (h : a.length * 16 ≤ 140737488351232) : Zcj a = some a := by
 unfold Zcj LF.run
 split
 ·dsimp only [Zek, LT.den]; rw [Zcz h (by decide)]; rfl
 ·rename_i e; have : a = [] := by simpa using e
  subst this; rfl
theorem Zjc (a : List Zy) (h : a.length * 768 ≤ 140737488351232) : Zc5 a = some a := by
 unfold Zc5 LF.run
 split
 ·dsimp only [Zd7, LT.den]; rw [Zcz h (by decide)]; rfl
 ·rename_i e; have : a = [] := by simpa using e
  subst this; rfl
theorem Zl8 (a : List Zab) (h : a.length * 80 ≤ 140737488351232) : Zd3 a = some a := by
 unfold Zd3 LF.run
 split
 ·dsimp only [Zfh, LT.den]; rw [Zcz h (by decide)]; rfl
 ·rename_i e; have : a = [] := by simpa using e
  subst this; rfl
theorem Zj6 (a : List Z5) (h : a.length * 24 ≤ 140737488351232) : Zdf a = some a := by
 unfold Zdf LF.run
 split
 ·dsimp only [Zem, LT.den]; rw [Zcz h (by decide)]; rfl
 ·rename_i e; have : a = [] := by simpa using e
  subst this; rfl
theorem Zdj (a b : List Int) (h : a.length * 8 ≤ 140737488351232) : Zib a b = some (decide (a = b)) := by
 (unfold Zib LF.run; dsimp only [Zky, LT.den])
 rw [Zgq]
 by_cases hl : a.length = b.length
 ·rw [decide_eq_false (show ¬ a.length ≠ b.length from fun e => e hl), cond_false, Option.bind_some, Zbt]
  have r := Zc0 (step := Zgc.step) (st := fun i : Nat => Zes.L0 a b (a.length : Int) (i : Int)) (bad := false) a b hl (fun i x y hx hy hm => by
   have hi := (List.getElem?_eq_some_iff.1 hx).1
   show (Zen _ _ _ _).den = _
   dsimp only [Zen, LT.den]
   rw [decide_eq_true (show (i : Int) < (a.length : Int) by omega), cond_true, Zag hx, Option.bind_some, Zag hy, Option.bind_some, int_bne', Zaw hi (by omega)]
   cases decide (x = y) <;> rfl)
  refine Eq.trans r ?_
  have he : Za4 Zgc.step (Zes.L0 a b (a.length : Int) (a.length : Int)) = some true := Zbf (by
   show (Zen _ _ _ _).den = _
   dsimp only [Zen, LT.den]
   rw [decide_eq_false (by omega)]; rfl)
  rw [he]
  cases decide (a = b) <;> rfl
 ·rw [decide_eq_true hl, Zg5 hl]; rfl
theorem Zj7 (a b : List Zm) (h : a.length * 128 ≤ 140737488351232) : Ze1 a b = some (decide (a = b)) := by
 (unfold Ze1 LF.run; dsimp only [Zgs, LT.den])
 rw [Zgq]
 by_cases hl : a.length = b.length
 ·rw [decide_eq_false (show ¬ a.length ≠ b.length from fun e => e hl), cond_false, Option.bind_some, Zbt]
  have r := Zc0 (step := Zc6.step) (st := fun i : Nat => Zb9.L0 a b (a.length : Int) (i : Int)) (bad := false) a b hl (fun i x y hx hy hm => by
   have hi := (List.getElem?_eq_some_iff.1 hx).1
   show (Zb5 _ _ _ _).den = _
   dsimp only [Zb5, LT.den]
   rw [decide_eq_true (show (i : Int) < (a.length : Int) by omega), cond_true, Zag hx, Option.bind_some, Zag hy, Option.bind_some, Z15, Zaw hi (by omega)]
   cases decide (x = y) <;> rfl)
  refine Eq.trans r ?_
  have he : Za4 Zc6.step (Zb9.L0 a b (a.length : Int) (a.length : Int)) = some true := Zbf (by
   show (Zb5 _ _ _ _).den = _
   dsimp only [Zb5, LT.den]
   rw [decide_eq_false (by omega)]; rfl)
  rw [he]
  cases decide (a = b) <;> rfl
 ·rw [decide_eq_true hl, Zg5 hl]; rfl
theorem Zj8 (a b : List Zbb) (h : a.length * 16 ≤ 140737488351232) : Ze2 a b = some (decide (a = b)) := by
 (unfold Ze2 LF.run; dsimp only [Zgt, LT.den])
 rw [Zgq]
 by_cases hl : a.length = b.length
 ·rw [decide_eq_false (show ¬ a.length ≠ b.length from fun e => e hl), cond_false, Option.bind_some, Zbt]
  have r := Zc0 (step := Zc7.step) (st := fun i : Nat => Zca.L0 a b (a.length : Int) (i : Int)) (bad := false) a b hl (fun i x y hx hy hm => by
   have hi := (List.getElem?_eq_some_iff.1 hx).1
   show (Zb6 _ _ _ _).den = _
   dsimp only [Zb6, LT.den]
   rw [decide_eq_true (show (i : Int) < (a.length : Int) by omega), cond_true, Zag hx, Option.bind_some, Zag hy, Option.bind_some, Z16, Zaw hi (by omega)]
   cases decide (x = y) <;> rfl)
  refine Eq.trans r ?_
  have he : Za4 Zc7.step (Zca.L0 a b (a.length : Int) (a.length : Int)) = some true := Zbf (by
   show (Zb6 _ _ _ _).den = _
   dsimp only [Zb6, LT.den]
   rw [decide_eq_false (by omega)]; rfl)
  rw [he]
  cases decide (a = b) <;> rfl
 ·rw [decide_eq_true hl, Zg5 hl]; rfl
theorem Zfo (a b : List Zj) (h : a.length * 176 ≤ 140737488351232) : Zgd a b = some (decide (a = b)) := by
 (unfold Zgd LF.run; dsimp only [Zhy, LT.den])
 rw [Zgq]
 by_cases hl : a.length = b.length
 ·rw [decide_eq_false (show ¬ a.length ≠ b.length from fun e => e hl), cond_false, Option.bind_some, Zbt]
  have r := Zc0 (step := Zd6.step) (st := fun i : Nat => Zc1.L0 a b (a.length : Int) (i : Int)) (bad := false) a b hl (fun i x y hx hy hm => by
   have hi := (List.getElem?_eq_some_iff.1 hx).1
   show (Zcv _ _ _ _).den = _
   dsimp only [Zcv, LT.den]
   rw [decide_eq_true (show (i : Int) < (a.length : Int) by omega), cond_true, Zag hx, Option.bind_some, Zag hy, Option.bind_some, Z1c, Zaw hi (by omega)]
   cases decide (x = y) <;> rfl)
  refine Eq.trans r ?_
  have he : Za4 Zd6.step (Zc1.L0 a b (a.length : Int) (a.length : Int)) = some true := Zbf (by
   show (Zcv _ _ _ _).den = _
   dsimp only [Zcv, LT.den]
   rw [decide_eq_false (by omega)]; rfl)
  rw [he]
  cases decide (a = b) <;> rfl
 ·rw [decide_eq_true hl, Zg5 hl]; rfl
theorem Zl9 (a b : List Zaz) (h : a.length * 144 ≤ 140737488351232) : Zfw a b = some (decide (a = b)) := by
 (unfold Zfw LF.run; dsimp only [Zhk, LT.den])
 rw [Zgq]
 by_cases hl : a.length = b.length
 ·rw [decide_eq_false (show ¬ a.length ≠ b.length from fun e => e hl), cond_false, Option.bind_some, Zbt]
  have r := Zc0 (step := Zdq.step) (st := fun i : Nat => Zcr.L0 a b (a.length : Int) (i : Int)) (bad := false) a b hl (fun i x y hx hy hm => by
   have hi := (List.getElem?_eq_some_iff.1 hx).1
   show (Zcp _ _ _ _).den = _
   dsimp only [Zcp, LT.den]
   rw [decide_eq_true (show (i : Int) < (a.length : Int) by omega), cond_true, Zag hx, Option.bind_some, Zag hy, Option.bind_some, Z8b, Zaw hi (by omega)]
   cases decide (x = y) <;> rfl)
  refine Eq.trans r ?_
  have he : Za4 Zdq.step (Zcr.L0 a b (a.length : Int) (a.length : Int)) = some true := Zbf (by
   show (Zcp _ _ _ _).den = _
   dsimp only [Zcp, LT.den]
   rw [decide_eq_false (by omega)]; rfl)
  rw [he]
  cases decide (a = b) <;> rfl
 ·rw [decide_eq_true hl, Zg5 hl]; rfl
theorem Zj9 (a b : List Z5) (h : a.length * 24 ≤ 140737488351232) : Ze3 a b = some (decide (a = b)) := by
 (unfold Ze3 LF.run; dsimp only [Zgu, LT.den])
 rw [Zgq]
 by_cases hl : a.length = b.length
 ·rw [decide_eq_false (show ¬ a.length ≠ b.length from fun e => e hl), cond_false, Option.bind_some, Zbt]
  have r := Zc0 (step := Zc8.step) (st := fun i : Nat => Zcb.L0 a b (a.length : Int) (i : Int)) (bad := false) a b hl (fun i x y hx hy hm => by
   have hi := (List.getElem?_eq_some_iff.1 hx).1
   show (Zb7 _ _ _ _).den = _
   dsimp only [Zb7, LT.den]
   rw [decide_eq_true (show (i : Int) < (a.length : Int) by omega), cond_true, Zag hx, Option.bind_some, Zag hy, Option.bind_some, Z17, Zaw hi (by omega)]
   cases decide (x = y) <;> rfl)
  refine Eq.trans r ?_
  have he : Za4 Zc8.step (Zcb.L0 a b (a.length : Int) (a.length : Int)) = some true := Zbf (by
   show (Zb7 _ _ _ _).den = _
   dsimp only [Zb7, LT.den]
   rw [decide_eq_false (by omega)]; rfl)
  rw [he]
  cases decide (a = b) <;> rfl
 ·rw [decide_eq_true hl, Zg5 hl]; rfl
theorem Zaag (x y : Zbz) (hx : Zy6 x) : Zs1 x y = some (decide (x = y)) := by
 (unfold Zs1 LF.run; dsimp only [Zxj, LT.den])
 simp only [Zdj x.Graveyard y.Graveyard hx.1, Zz6, Zgp, Zf3, Zie, int_bne', Zg4, Option.bind_some, Zf2, Zef, Ze4]
 congr 1
 rw [decide_eq_decide]
 obtain ⟨a0, a1, a2, a3, a4, a5, a6, a7⟩ := x
 obtain ⟨b0, b1, b2, b3, b4, b5, b6, b7⟩ := y
 simp only [Zbz.mk.injEq]
 try simp only [and_assoc, and_comm, and_left_comm]
theorem Z5h (x y : Zl) (hx : Zaa x) : Zpu x y = some (decide (x = y)) := by
 (unfold Zpu LF.run; dsimp only [Zt1, LT.den])
 simp only [Zfo x.Mods y.Mods hx.2.2.2.2.1, Zadd, Z14, Zn3, Zz6, Zgp, Zf3, Zie, int_bne', Zg4, Option.bind_some, Zf2, Zef, Ze4]
 congr 1
 rw [decide_eq_decide]
 obtain ⟨a0, a1, a2, a3, a4, a5, a6, a7, a8⟩ := x
 obtain ⟨b0, b1, b2, b3, b4, b5, b6, b7, b8⟩ := y
 simp only [Zl.mk.injEq]
theorem Zdu (a b : List Zl) (h : a.length * 560 ≤ 140737488351232) (he : ∀ x, x ∈ a → Zaa x) : Zbh a b = some (decide (a = b)) := by
 (unfold Zbh LF.run; dsimp only [Zb4, LT.den])
 rw [Zgq]
 by_cases hl : a.length = b.length
 ·rw [decide_eq_false (show ¬ a.length ≠ b.length from fun e => e hl), cond_false, Option.bind_some, Zbt]
  have r := Zc0 (step := Zau.step) (st := fun i : Nat => Z9.L0 b a (a.length : Int) (i : Int)) (bad := false) a b hl (fun i x y hx hy hm => by
   have hi := (List.getElem?_eq_some_iff.1 hx).1
   show (Z7 _ _ _ _).den = _
   dsimp only [Z7, LT.den]
   rw [decide_eq_true (show (i : Int) < (a.length : Int) by omega), cond_true, Zag hx, Option.bind_some, Zag hy, Option.bind_some, (Z5h x y (he x hm)), Option.bind_some, Zaw hi (by omega)]
   cases decide (x = y) <;> rfl)
  refine Eq.trans r ?_
  have he : Za4 Zau.step (Z9.L0 b a (a.length : Int) (a.length : Int)) = some true := Zbf (by
   show (Z7 _ _ _ _).den = _
   dsimp only [Z7, LT.den]
   rw [decide_eq_false (by omega)]; rfl)
  rw [he]
  cases decide (a = b) <;> rfl
 ·rw [decide_eq_true hl, Zg5 hl]; rfl
theorem Zqj (x y : Zk) (hx : Za1 x) : Zoj x y = some (decide (x = y)) := by
 (unfold Zoj LF.run; dsimp only [Zse, LT.den])
 simp only [Zfo x.Mods y.Mods hx.2.1.1, Zl9 x.Specs y.Specs hx.2.2.2.1.1, Zdu x.Effects y.Effects hx.2.2.2.2.1.1 hx.2.2.2.2.1.2, Zgp, Zf3, Zn3, Z4v, Zz4, Zz5, Option.bind_some, Zf2, Zef, Ze4]
 congr 1
 rw [decide_eq_decide]
 obtain ⟨a0, a1, a2, a3, a4, a5, a6, a7, a8, a9⟩ := x
 obtain ⟨b0, b1, b2, b3, b4, b5, b6, b7, b8, b9⟩ := y
 simp only [Zk.mk.injEq]
theorem Zaah (x y : Z6) (hx : Zfx x) : Zs2 x y = some (decide (x = y)) := by
 (unfold Zs2 LF.run; dsimp only [Zxl, LT.den])
 simp only [Zj8 x.Targets y.Targets hx.2.1, Zqj x.Ability y.Ability hx.1, Zpz, Zgp, Zf3, Zie, int_bne', Zg4, Option.bind_some, Zf2, Zef, Ze4]
 congr 1
 rw [decide_eq_decide]
 obtain ⟨a0, a1, a2, a3, a4, a5, a6, a7, a8⟩ := x
 obtain ⟨b0, b1, b2, b3, b4, b5, b6, b7, b8⟩ := y
 simp only [Z6.mk.injEq]
 try simp only [and_assoc, and_comm, and_left_comm]
theorem Z2v (x y : Zy) (hx : Zg6 x) : Zok x y = some (decide (x = y)) := by
 (unfold Zok LF.run; dsimp only [Zsg, LT.den])
 simp only [Zqj x.Ability y.Ability hx, Zpz, Zgp, Zf3, Zie, int_bne', Zg4, Option.bind_some, Zf2, Zef, Ze4]
 congr 1
 rw [decide_eq_decide]
 obtain ⟨a0, a1, a2, a3⟩ := x
 obtain ⟨b0, b1, b2, b3⟩ := y
 simp only [Zy.mk.injEq]
 try simp only [and_assoc, and_comm, and_left_comm]
theorem Zaai (x y : Zab) (hx : Zir x) : Zs3 x y = some (decide (x = y)) := by
 (unfold Zs3 LF.run; dsimp only [Zxn, LT.den])
 simp only [Zdj x.Objects y.Objects hx.1.1, Zfo x.Mods y.Mods hx.2.1, Zgp, Zf3, Zie, int_bne', Zg4, Option.bind_some, Zf2, Zef, Ze4]
 congr 1
 rw [decide_eq_decide]
 obtain ⟨a0, a1, a2, a3, a4, a5⟩ := x
 obtain ⟨b0, b1, b2, b3, b4, b5⟩ := y
 simp only [Zab.mk.injEq]
 try simp only [and_assoc, and_comm, and_left_comm]
theorem Zey (a b : List Zbz) (h : a.length * 120 ≤ 140737488351232) (he : ∀ x, x ∈ a → Zy6 x) : Zbq a b = some (decide (a = b)) := by
 (unfold Zbq LF.run; dsimp only [Zck, LT.den])
 rw [Zgq]
 by_cases hl : a.length = b.length
 ·rw [decide_eq_false (show ¬ a.length ≠ b.length from fun e => e hl), cond_false, Option.bind_some, Zbt]
  have r := Zc0 (step := Za5.step) (st := fun i : Nat => Zaq.L0 b a (a.length : Int) (i : Int)) (bad := false) a b hl (fun i x y hx hy hm => by
   have hi := (List.getElem?_eq_some_iff.1 hx).1
   show (Zaj _ _ _ _).den = _
   dsimp only [Zaj, LT.den]
   rw [decide_eq_true (show (i : Int) < (a.length : Int) by omega), cond_true, Zag hx, Option.bind_some, Zag hy, Option.bind_some, (Zaag x y (he x hm)), Option.bind_some, Zaw hi (by omega)]
   cases decide (x = y) <;> rfl)
  refine Eq.trans r ?_
  have he : Za4 Za5.step (Zaq.L0 b a (a.length : Int) (a.length : Int)) = some true := Zbf (by
   show (Zaj _ _ _ _).den = _
   dsimp only [Zaj, LT.den]
   rw [decide_eq_false (by omega)]; rfl)
  rw [he]
  cases decide (a = b) <;> rfl
 ·rw [decide_eq_true hl, Zg5 hl]; rfl
theorem Zez (a b : List Z6) (h : a.length * 824 ≤ 140737488351232) (he : ∀ x, x ∈ a → Zfx x) : Zbr a b = some (decide (a = b)) := by
 (unfold Zbr LF.run; dsimp only [Zcl, LT.den])
 rw [Zgq]
 by_cases hl : a.length = b.length
 ·rw [decide_eq_false (show ¬ a.length ≠ b.length from fun e => e hl), cond_false, Option.bind_some, Zbt]
  have r := Zc0 (step := Za6.step) (st := fun i : Nat => Zar.L0 b a (a.length : Int) (i : Int)) (bad := false) a b hl (fun i x y hx hy hm => by
   have hi := (List.getElem?_eq_some_iff.1 hx).1
   show (Zak _ _ _ _).den = _
   dsimp only [Zak, LT.den]
   rw [decide_eq_true (show (i : Int) < (a.length : Int) by omega), cond_true, Zag hx, Option.bind_some, Zag hy, Option.bind_some, (Zaah x y (he x hm)), Option.bind_some, Zaw hi (by omega)]
   cases decide (x = y) <;> rfl)
  refine Eq.trans r ?_
  have he : Za4 Za6.step (Zar.L0 b a (a.length : Int) (a.length : Int)) = some true := Zbf (by
   show (Zak _ _ _ _).den = _
   dsimp only [Zak, LT.den]
   rw [decide_eq_false (by omega)]; rfl)
  rw [he]
  cases decide (a = b) <;> rfl
 ·rw [decide_eq_true hl, Zg5 hl]; rfl
theorem Zdn (a b : List Zy) (h : a.length * 768 ≤ 140737488351232) (he : ∀ x, x ∈ a → Zg6 x) : Zbd a b = some (decide (a = b)) := by
 (unfold Zbd LF.run; dsimp only [Zb0, LT.den])
 rw [Zgq]
 by_cases hl : a.length = b.length
 ·rw [decide_eq_false (show ¬ a.length ≠ b.length from fun e => e hl), cond_false, Option.bind_some, Zbt]
  have r := Zc0 (step := Zan.step) (st := fun i : Nat => Z4.L0 b a (a.length : Int) (i : Int)) (bad := false) a b hl (fun i x y hx hy hm => by
   have hi := (List.getElem?_eq_some_iff.1 hx).1
   show (Z3 _ _ _ _).den = _
   dsimp only [Z3, LT.den]
   rw [decide_eq_true (show (i : Int) < (a.length : Int) by omega), cond_true, Zag hx, Option.bind_some, Zag hy, Option.bind_some, (Z2v x y (he x hm)), Option.bind_some, Zaw hi (by omega)]
   cases decide (x = y) <;> rfl)
  refine Eq.trans r ?_
  have he : Za4 Zan.step (Z4.L0 b a (a.length : Int) (a.length : Int)) = some true := Zbf (by
   show (Z3 _ _ _ _).den = _
   dsimp only [Z3, LT.den]
   rw [decide_eq_false (by omega)]; rfl)
  rw [he]
  cases decide (a = b) <;> rfl
 ·rw [decide_eq_true hl, Zg5 hl]; rfl
theorem Ze0 (a b : List Zab) (h : a.length * 80 ≤ 140737488351232) (he : ∀ x, x ∈ a → Zir x) : Zbs a b = some (decide (a = b)) := by
 (unfold Zbs LF.run; dsimp only [Zcm, LT.den])
 rw [Zgq]
 by_cases hl : a.length = b.length
 ·rw [decide_eq_false (show ¬ a.length ≠ b.length from fun e => e hl), cond_false, Option.bind_some, Zbt]
  have r := Zc0 (step := Za7.step) (st := fun i : Nat => Zas.L0 b a (a.length : Int) (i : Int)) (bad := false) a b hl (fun i x y hx hy hm => by
   have hi := (List.getElem?_eq_some_iff.1 hx).1
   show (Zal _ _ _ _).den = _
   dsimp only [Zal, LT.den]
   rw [decide_eq_true (show (i : Int) < (a.length : Int) by omega), cond_true, Zag hx, Option.bind_some, Zag hy, Option.bind_some, (Zaai x y (he x hm)), Option.bind_some, Zaw hi (by omega)]
   cases decide (x = y) <;> rfl)
  refine Eq.trans r ?_
  have he : Za4 Za7.step (Zas.L0 b a (a.length : Int) (a.length : Int)) = some true := Zbf (by
   show (Zal _ _ _ _).den = _
   dsimp only [Zal, LT.den]
   rw [decide_eq_false (by omega)]; rfl)
  rw [he]
  cases decide (a = b) <;> rfl
 ·rw [decide_eq_true hl, Zg5 hl]; rfl
theorem Z5i (x y : Za0) (hx : Zif x) : Zpv x y = some (decide (x = y)) := by
 (unfold Zpv LF.run; dsimp only [Zt3, LT.den])
 simp only [Zj9 x.Options y.Options hx.1, Zgp, Option.bind_some, Zf2, Zef, Ze4]
 congr 1
 rw [decide_eq_decide]
 obtain ⟨a0, a1, a2, a3, a4, a5, a6⟩ := x
 obtain ⟨b0, b1, b2, b3, b4, b5, b6⟩ := y
 simp only [Za0.mk.injEq]
end Go.PW
