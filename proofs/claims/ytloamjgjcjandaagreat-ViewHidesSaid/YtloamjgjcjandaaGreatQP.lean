import Derived.Test.YtloamjgjcjandaaGreatQXb
set_option linter.all false
set_option maxRecDepth 100000
namespace Go.PW
theorem Zke (a : List Zv) (h : a.length * 152 ≤ 140737488351232) : Zdd a = some a := by
 unfold Zdd LF.run
 split
 ·dsimp only [Zeh, LT.den]; rw [Zc9 h (by decide)]; rfl
 ·rename_i e; have : a = [] := by simpa using e
  subst this; rfl
theorem Zcs (a : List Int) (h : a.length * 8 ≤ 140737488351232) : Zfj a = some a := by
 unfold Zfj LF.run
 split
 ·dsimp only [Zh1, LT.den]; rw [Zc9 h (by decide)]; rfl
 ·rename_i e; have : a = [] := by simpa using e
  subst this; rfl
theorem Zkf (a : List Zh) (h : a.length * 128 ≤ 140737488351232) : Zde a = some a := by
 unfold Zde LF.run
 split
 ·dsimp only [Zei, LT.den]; rw [Zc9 h (by decide)]; rfl
 ·rename_i e; have : a = [] := by simpa using e
  subst this; rfl
theorem Zmo (a : List Z4) (h : a.length * 824 ≤ 140737488351232) : Zd2 a = some a := by
 unfold Zd2 LF.run
 split
 ·dsimp only [Zff, LT.den]; rw [Zc9 h (by decide)]; rfl
 ·rename_i e; have : a = [] := by simpa using e
  subst this; rfl
theorem Zfn (a : List Zj) (h : a.length * 176 ≤ 140737488351232) : Zdc a = some a := by
 unfold Zdc LF.run
 split
 ·dsimp only [Zfv, LT.den]; rw [Zc9 h (by decide)]; rfl
 ·rename_i e; have : a = [] := by simpa using e
  subst this; rfl
theorem Zmp (a : List Zaz) (h : a.length * 144 ≤ 140737488351232) : Zd3 a = some a := by
 unfold Zd3 LF.run
 split
 ·dsimp only [Zfg, LT.den]; rw [Zc9 h (by decide)]; rfl
 ·rename_i e; have : a = [] := by simpa using e
  subst this; rfl
theorem Zkg (a : List Zm) (h : a.length * 560 ≤ 140737488351232) : Zdf a = some a := by
 unfold Zdf LF.run
 split
 ·dsimp only [Zej, LT.den]; rw [Zc9 h (by decide)]; rfl
 ·rename_i e; have : a = [] := by simpa using e
  subst this; rfl
theorem Zkh (a : List Zbd) (h : a.length * 16 ≤ 140737488351232) : Zcj a = some a := by
 unfold Zcj LF.run
 split
 ·dsimp only [Zek, LT.den]; rw [Zc9 h (by decide)]; rfl
 ·rename_i e; have : a = [] := by simpa using e
  subst this; rfl
theorem Zjm (a : List Zz) (h : a.length * 768 ≤ 140737488351232) : Zc5 a = some a := by
 unfold Zc5 LF.run
 split
 ·dsimp only [Zd8, LT.den]; rw [Zc9 h (by decide)]; rfl
 ·rename_i e; have : a = [] := by simpa using e
  subst this; rfl
theorem Zmq (a : List Zaf) (h : a.length * 80 ≤ 140737488351232) : Zd4 a = some a := by
 unfold Zd4 LF.run
 split
 ·dsimp only [Zfh, LT.den]; rw [Zc9 h (by decide)]; rfl
 ·rename_i e; have : a = [] := by simpa using e
  subst this; rfl
theorem Zki (a : List Z7) (h : a.length * 24 ≤ 140737488351232) : Zdg a = some a := by
 unfold Zdg LF.run
 split
 ·dsimp only [Zem, LT.den]; rw [Zc9 h (by decide)]; rfl
 ·rename_i e; have : a = [] := by simpa using e
  subst this; rfl
theorem Zdj (a b : List Int) (h : a.length * 8 ≤ 140737488351232) : Zik a b = some (decide (a = b)) := by
 (unfold Zik LF.run; dsimp only [Zld, LT.den])
 rw [Zgs]
 by_cases hl : a.length = b.length
 ·rw [decide_eq_false (show ¬ a.length ≠ b.length from fun e => e hl), cond_false, Option.bind_some, Zbb]
  have r := Zc0 (step := Zgd.step) (st := fun i : Nat => Zes.L0 a b (a.length : Int) (i : Int)) (bad := false) a b hl (fun i x y hx hy hm => by
   have hi := (List.getElem?_eq_some_iff.1 hx).1
   show (Zen _ _ _ _).den = _
   dsimp only [Zen, LT.den]
   rw [decide_eq_true (show (i : Int) < (a.length : Int) by omega), cond_true, Z8 hx, Option.bind_some, Z8 hy, Option.bind_some, int_bne', Zat hi (by omega)]
   cases decide (x = y) <;> rfl)
  refine Eq.trans r ?_
  have he : Zaw Zgd.step (Zes.L0 a b (a.length : Int) (a.length : Int)) = some true := Za7 (by
   show (Zen _ _ _ _).den = _
   dsimp only [Zen, LT.den]
   rw [decide_eq_false (by omega)]; rfl)
  rw [he]
  cases decide (a = b) <;> rfl
 ·rw [decide_eq_true hl, Zha hl]; rfl
theorem Zkj (a b : List Zh) (h : a.length * 128 ≤ 140737488351232) : Ze1 a b = some (decide (a = b)) := by
 (unfold Ze1 LF.run; dsimp only [Zgu, LT.den])
 rw [Zgs]
 by_cases hl : a.length = b.length
 ·rw [decide_eq_false (show ¬ a.length ≠ b.length from fun e => e hl), cond_false, Option.bind_some, Zbb]
  have r := Zc0 (step := Zc6.step) (st := fun i : Nat => Zb9.L0 a b (a.length : Int) (i : Int)) (bad := false) a b hl (fun i x y hx hy hm => by
   have hi := (List.getElem?_eq_some_iff.1 hx).1
   show (Zb5 _ _ _ _).den = _
   dsimp only [Zb5, LT.den]
   rw [decide_eq_true (show (i : Int) < (a.length : Int) by omega), cond_true, Z8 hx, Option.bind_some, Z8 hy, Option.bind_some, Z2y, Zat hi (by omega)]
   cases decide (x = y) <;> rfl)
  refine Eq.trans r ?_
  have he : Zaw Zc6.step (Zb9.L0 a b (a.length : Int) (a.length : Int)) = some true := Za7 (by
   show (Zb5 _ _ _ _).den = _
   dsimp only [Zb5, LT.den]
   rw [decide_eq_false (by omega)]; rfl)
  rw [he]
  cases decide (a = b) <;> rfl
 ·rw [decide_eq_true hl, Zha hl]; rfl
theorem Zkk (a b : List Zbd) (h : a.length * 16 ≤ 140737488351232) : Ze2 a b = some (decide (a = b)) := by
 (unfold Ze2 LF.run; dsimp only [Zgv, LT.den])
 rw [Zgs]
 by_cases hl : a.length = b.length
 ·rw [decide_eq_false (show ¬ a.length ≠ b.length from fun e => e hl), cond_false, Option.bind_some, Zbb]
  have r := Zc0 (step := Zc7.step) (st := fun i : Nat => Zca.L0 a b (a.length : Int) (i : Int)) (bad := false) a b hl (fun i x y hx hy hm => by
   have hi := (List.getElem?_eq_some_iff.1 hx).1
   show (Zb6 _ _ _ _).den = _
   dsimp only [Zb6, LT.den]
   rw [decide_eq_true (show (i : Int) < (a.length : Int) by omega), cond_true, Z8 hx, Option.bind_some, Z8 hy, Option.bind_some, Z2z, Zat hi (by omega)]
   cases decide (x = y) <;> rfl)
  refine Eq.trans r ?_
  have he : Zaw Zc7.step (Zca.L0 a b (a.length : Int) (a.length : Int)) = some true := Za7 (by
   show (Zb6 _ _ _ _).den = _
   dsimp only [Zb6, LT.den]
   rw [decide_eq_false (by omega)]; rfl)
  rw [he]
  cases decide (a = b) <;> rfl
 ·rw [decide_eq_true hl, Zha hl]; rfl
theorem Zfo (a b : List Zj) (h : a.length * 176 ≤ 140737488351232) : Zge a b = some (decide (a = b)) := by
 (unfold Zge LF.run; dsimp only [Zh6, LT.den])
 rw [Zgs]
 by_cases hl : a.length = b.length
 ·rw [decide_eq_false (show ¬ a.length ≠ b.length from fun e => e hl), cond_false, Option.bind_some, Zbb]
  have r := Zc0 (step := Zd7.step) (st := fun i : Nat => Zc1.L0 a b (a.length : Int) (i : Int)) (bad := false) a b hl (fun i x y hx hy hm => by
   have hi := (List.getElem?_eq_some_iff.1 hx).1
   show (Zcu _ _ _ _).den = _
   dsimp only [Zcu, LT.den]
   rw [decide_eq_true (show (i : Int) < (a.length : Int) by omega), cond_true, Z8 hx, Option.bind_some, Z8 hy, Option.bind_some, Z2a, Zat hi (by omega)]
   cases decide (x = y) <;> rfl)
  refine Eq.trans r ?_
  have he : Zaw Zd7.step (Zc1.L0 a b (a.length : Int) (a.length : Int)) = some true := Za7 (by
   show (Zcu _ _ _ _).den = _
   dsimp only [Zcu, LT.den]
   rw [decide_eq_false (by omega)]; rfl)
  rw [he]
  cases decide (a = b) <;> rfl
 ·rw [decide_eq_true hl, Zha hl]; rfl
theorem Zmr (a b : List Zaz) (h : a.length * 144 ≤ 140737488351232) : Zfw a b = some (decide (a = b)) := by
 (unfold Zfw LF.run; dsimp only [Zhr, LT.den])
 rw [Zgs]
 by_cases hl : a.length = b.length
 ·rw [decide_eq_false (show ¬ a.length ≠ b.length from fun e => e hl), cond_false, Option.bind_some, Zbb]
  have r := Zc0 (step := Zdr.step) (st := fun i : Nat => Zcq.L0 a b (a.length : Int) (i : Int)) (bad := false) a b hl (fun i x y hx hy hm => by
   have hi := (List.getElem?_eq_some_iff.1 hx).1
   show (Zco _ _ _ _).den = _
   dsimp only [Zco, LT.den]
   rw [decide_eq_true (show (i : Int) < (a.length : Int) by omega), cond_true, Z8 hx, Option.bind_some, Z8 hy, Option.bind_some, Z8u, Zat hi (by omega)]
   cases decide (x = y) <;> rfl)
  refine Eq.trans r ?_
  have he : Zaw Zdr.step (Zcq.L0 a b (a.length : Int) (a.length : Int)) = some true := Za7 (by
   show (Zco _ _ _ _).den = _
   dsimp only [Zco, LT.den]
   rw [decide_eq_false (by omega)]; rfl)
  rw [he]
  cases decide (a = b) <;> rfl
 ·rw [decide_eq_true hl, Zha hl]; rfl
theorem Zkl (a b : List Z7) (h : a.length * 24 ≤ 140737488351232) : Ze3 a b = some (decide (a = b)) := by
 (unfold Ze3 LF.run; dsimp only [Zgw, LT.den])
 rw [Zgs]
 by_cases hl : a.length = b.length
 ·rw [decide_eq_false (show ¬ a.length ≠ b.length from fun e => e hl), cond_false, Option.bind_some, Zbb]
  have r := Zc0 (step := Zc8.step) (st := fun i : Nat => Zcb.L0 a b (a.length : Int) (i : Int)) (bad := false) a b hl (fun i x y hx hy hm => by
   have hi := (List.getElem?_eq_some_iff.1 hx).1
   show (Zb7 _ _ _ _).den = _
   dsimp only [Zb7, LT.den]
   rw [decide_eq_true (show (i : Int) < (a.length : Int) by omega), cond_true, Z8 hx, Option.bind_some, Z8 hy, Option.bind_some, Z20, Zat hi (by omega)]
   cases decide (x = y) <;> rfl)
  refine Eq.trans r ?_
  have he : Zaw Zc8.step (Zcb.L0 a b (a.length : Int) (a.length : Int)) = some true := Za7 (by
   show (Zb7 _ _ _ _).den = _
   dsimp only [Zb7, LT.den]
   rw [decide_eq_false (by omega)]; rfl)
  rw [he]
  cases decide (a = b) <;> rfl
 ·rw [decide_eq_true hl, Zha hl]; rfl
theorem Zaa1 (x y : Zb4) (hx : Zz4 x) : Ztu x y = some (decide (x = y)) := by
 (unfold Ztu LF.run; dsimp only [Zye, LT.den])
 simp only [Zdj x.Graveyard y.Graveyard hx.1, Z03, Zgb, Zf3, Zin, int_bne', Zg9, Option.bind_some, Zf2, Zcz, Ze4]
 congr 1
 rw [decide_eq_decide]
 obtain ⟨a0, a1, a2, a3, a4, a5, a6, a7⟩ := x
 obtain ⟨b0, b1, b2, b3, b4, b5, b6, b7⟩ := y
 simp only [Zb4.mk.injEq]
 try simp only [and_assoc, and_comm, and_left_comm]
theorem Z55 (x y : Zm) (hx : Z9 x) : Zqi x y = some (decide (x = y)) := by
 (unfold Zqi LF.run; dsimp only [Zuu, LT.den])
 simp only [Zfo x.Mods y.Mods hx.2.2.2.2.1, Zadw, Z2x, Zoq, Z03, Zgb, Zf3, Zin, int_bne', Zg9, Option.bind_some, Zf2, Zcz, Ze4]
 congr 1
 rw [decide_eq_decide]
 obtain ⟨a0, a1, a2, a3, a4, a5, a6, a7, a8⟩ := x
 obtain ⟨b0, b1, b2, b3, b4, b5, b6, b7, b8⟩ := y
 simp only [Zm.mk.injEq]
theorem Zdv (a b : List Zm) (h : a.length * 560 ≤ 140737488351232) (he : ∀ x, x ∈ a → Z9 x) : Zbi a b = some (decide (a = b)) := by
 (unfold Zbi LF.run; dsimp only [Zb3, LT.den])
 rw [Zgs]
 by_cases hl : a.length = b.length
 ·rw [decide_eq_false (show ¬ a.length ≠ b.length from fun e => e hl), cond_false, Option.bind_some, Zbb]
  have r := Zc0 (step := Zau.step) (st := fun i : Nat => Z6.L0 b a (a.length : Int) (i : Int)) (bad := false) a b hl (fun i x y hx hy hm => by
   have hi := (List.getElem?_eq_some_iff.1 hx).1
   show (Z5 _ _ _ _).den = _
   dsimp only [Z5, LT.den]
   rw [decide_eq_true (show (i : Int) < (a.length : Int) by omega), cond_true, Z8 hx, Option.bind_some, Z8 hy, Option.bind_some, (Z55 x y (he x hm)), Option.bind_some, Zat hi (by omega)]
   cases decide (x = y) <;> rfl)
  refine Eq.trans r ?_
  have he : Zaw Zau.step (Z6.L0 b a (a.length : Int) (a.length : Int)) = some true := Za7 (by
   show (Z5 _ _ _ _).den = _
   dsimp only [Z5, LT.den]
   rw [decide_eq_false (by omega)]; rfl)
  rw [he]
  cases decide (a = b) <;> rfl
 ·rw [decide_eq_true hl, Zha hl]; rfl
theorem Zq7 (x y : Zl) (hx : Za0 x) : Zo8 x y = some (decide (x = y)) := by
 (unfold Zo8 LF.run; dsimp only [Zs6, LT.den])
 simp only [Zfo x.Mods y.Mods hx.2.1.1, Zmr x.Specs y.Specs hx.2.2.2.1.1, Zdv x.Effects y.Effects hx.2.2.2.2.1.1 hx.2.2.2.2.1.2, Zgb, Zf3, Zoq, Z5j, Z01, Z02, Option.bind_some, Zf2, Zcz, Ze4]
 congr 1
 rw [decide_eq_decide]
 obtain ⟨a0, a1, a2, a3, a4, a5, a6, a7, a8, a9⟩ := x
 obtain ⟨b0, b1, b2, b3, b4, b5, b6, b7, b8, b9⟩ := y
 simp only [Zl.mk.injEq]
theorem Zaa2 (x y : Z4) (hx : Zfx x) : Ztv x y = some (decide (x = y)) := by
 (unfold Ztv LF.run; dsimp only [Zyg, LT.den])
 simp only [Zkk x.Targets y.Targets hx.2.1, Zq7 x.Ability y.Ability hx.1, Zqo, Zgb, Zf3, Zin, int_bne', Zg9, Option.bind_some, Zf2, Zcz, Ze4]
 congr 1
 rw [decide_eq_decide]
 obtain ⟨a0, a1, a2, a3, a4, a5, a6, a7, a8⟩ := x
 obtain ⟨b0, b1, b2, b3, b4, b5, b6, b7, b8⟩ := y
 simp only [Z4.mk.injEq]
 try simp only [and_assoc, and_comm, and_left_comm]
theorem Z3n (x y : Zz) (hx : Zhb x) : Zo9 x y = some (decide (x = y)) := by
 (unfold Zo9 LF.run; dsimp only [Zs8, LT.den])
 simp only [Zq7 x.Ability y.Ability hx, Zqo, Zgb, Zf3, Zin, int_bne', Zg9, Option.bind_some, Zf2, Zcz, Ze4]
 congr 1
 rw [decide_eq_decide]
 obtain ⟨a0, a1, a2, a3⟩ := x
 obtain ⟨b0, b1, b2, b3⟩ := y
 simp only [Zz.mk.injEq]
 try simp only [and_assoc, and_comm, and_left_comm]
theorem Zaa3 (x y : Zaf) (hx : Zi1 x) : Ztw x y = some (decide (x = y)) := by
 (unfold Ztw LF.run; dsimp only [Zyi, LT.den])
 simp only [Zdj x.Objects y.Objects hx.1.1, Zfo x.Mods y.Mods hx.2.1, Zgb, Zf3, Zin, int_bne', Zg9, Option.bind_some, Zf2, Zcz, Ze4]
 congr 1
 rw [decide_eq_decide]
 obtain ⟨a0, a1, a2, a3, a4, a5⟩ := x
 obtain ⟨b0, b1, b2, b3, b4, b5⟩ := y
 simp only [Zaf.mk.injEq]
 try simp only [and_assoc, and_comm, and_left_comm]
theorem Zey (a b : List Zb4) (h : a.length * 120 ≤ 140737488351232) (he : ∀ x, x ∈ a → Zz4 x) : Zbr a b = some (decide (a = b)) := by
 (unfold Zbr LF.run; dsimp only [Zck, LT.den])
 rw [Zgs]
 by_cases hl : a.length = b.length
 ·rw [decide_eq_false (show ¬ a.length ≠ b.length from fun e => e hl), cond_false, Option.bind_some, Zbb]
  have r := Zc0 (step := Za3.step) (st := fun i : Nat => Zaq.L0 b a (a.length : Int) (i : Int)) (bad := false) a b hl (fun i x y hx hy hm => by
   have hi := (List.getElem?_eq_some_iff.1 hx).1
   show (Zaj _ _ _ _).den = _
   dsimp only [Zaj, LT.den]
   rw [decide_eq_true (show (i : Int) < (a.length : Int) by omega), cond_true, Z8 hx, Option.bind_some, Z8 hy, Option.bind_some, (Zaa1 x y (he x hm)), Option.bind_some, Zat hi (by omega)]
   cases decide (x = y) <;> rfl)
  refine Eq.trans r ?_
  have he : Zaw Za3.step (Zaq.L0 b a (a.length : Int) (a.length : Int)) = some true := Za7 (by
   show (Zaj _ _ _ _).den = _
   dsimp only [Zaj, LT.den]
   rw [decide_eq_false (by omega)]; rfl)
  rw [he]
  cases decide (a = b) <;> rfl
 ·rw [decide_eq_true hl, Zha hl]; rfl
theorem Zez (a b : List Z4) (h : a.length * 824 ≤ 140737488351232) (he : ∀ x, x ∈ a → Zfx x) : Zbs a b = some (decide (a = b)) := by
 (unfold Zbs LF.run; dsimp only [Zcl, LT.den])
 rw [Zgs]
 by_cases hl : a.length = b.length
 ·rw [decide_eq_false (show ¬ a.length ≠ b.length from fun e => e hl), cond_false, Option.bind_some, Zbb]
  have r := Zc0 (step := Za4.step) (st := fun i : Nat => Zar.L0 b a (a.length : Int) (i : Int)) (bad := false) a b hl (fun i x y hx hy hm => by
   have hi := (List.getElem?_eq_some_iff.1 hx).1
   show (Zak _ _ _ _).den = _
   dsimp only [Zak, LT.den]
   rw [decide_eq_true (show (i : Int) < (a.length : Int) by omega), cond_true, Z8 hx, Option.bind_some, Z8 hy, Option.bind_some, (Zaa2 x y (he x hm)), Option.bind_some, Zat hi (by omega)]
   cases decide (x = y) <;> rfl)
  refine Eq.trans r ?_
  have he : Zaw Za4.step (Zar.L0 b a (a.length : Int) (a.length : Int)) = some true := Za7 (by
   show (Zak _ _ _ _).den = _
   dsimp only [Zak, LT.den]
   rw [decide_eq_false (by omega)]; rfl)
  rw [he]
  cases decide (a = b) <;> rfl
 ·rw [decide_eq_true hl, Zha hl]; rfl
theorem Zdo (a b : List Zz) (h : a.length * 768 ≤ 140737488351232) (he : ∀ x, x ∈ a → Zhb x) : Zbf a b = some (decide (a = b)) := by
 (unfold Zbf LF.run; dsimp only [Zbz, LT.den])
 rw [Zgs]
 by_cases hl : a.length = b.length
 ·rw [decide_eq_false (show ¬ a.length ≠ b.length from fun e => e hl), cond_false, Option.bind_some, Zbb]
  have r := Zc0 (step := Zan.step) (st := fun i : Nat => Z3.L0 b a (a.length : Int) (i : Int)) (bad := false) a b hl (fun i x y hx hy hm => by
   have hi := (List.getElem?_eq_some_iff.1 hx).1
   show (Z2 _ _ _ _).den = _
   dsimp only [Z2, LT.den]
   rw [decide_eq_true (show (i : Int) < (a.length : Int) by omega), cond_true, Z8 hx, Option.bind_some, Z8 hy, Option.bind_some, (Z3n x y (he x hm)), Option.bind_some, Zat hi (by omega)]
   cases decide (x = y) <;> rfl)
  refine Eq.trans r ?_
  have he : Zaw Zan.step (Z3.L0 b a (a.length : Int) (a.length : Int)) = some true := Za7 (by
   show (Z2 _ _ _ _).den = _
   dsimp only [Z2, LT.den]
   rw [decide_eq_false (by omega)]; rfl)
  rw [he]
  cases decide (a = b) <;> rfl
 ·rw [decide_eq_true hl, Zha hl]; rfl
theorem Ze0 (a b : List Zaf) (h : a.length * 80 ≤ 140737488351232) (he : ∀ x, x ∈ a → Zi1 x) : Zbt a b = some (decide (a = b)) := by
 (unfold Zbt LF.run; dsimp only [Zcm, LT.den])
 rw [Zgs]
 by_cases hl : a.length = b.length
 ·rw [decide_eq_false (show ¬ a.length ≠ b.length from fun e => e hl), cond_false, Option.bind_some, Zbb]
  have r := Zc0 (step := Za5.step) (st := fun i : Nat => Zas.L0 b a (a.length : Int) (i : Int)) (bad := false) a b hl (fun i x y hx hy hm => by
   have hi := (List.getElem?_eq_some_iff.1 hx).1
   show (Zal _ _ _ _).den = _
   dsimp only [Zal, LT.den]
   rw [decide_eq_true (show (i : Int) < (a.length : Int) by omega), cond_true, Z8 hx, Option.bind_some, Z8 hy, Option.bind_some, (Zaa3 x y (he x hm)), Option.bind_some, Zat hi (by omega)]
   cases decide (x = y) <;> rfl)
  refine Eq.trans r ?_
  have he : Zaw Za5.step (Zas.L0 b a (a.length : Int) (a.length : Int)) = some true := Za7 (by
   show (Zal _ _ _ _).den = _
   dsimp only [Zal, LT.den]
   rw [decide_eq_false (by omega)]; rfl)
  rw [he]
  cases decide (a = b) <;> rfl
 ·rw [decide_eq_true hl, Zha hl]; rfl
theorem Z56 (x y : Za9) (hx : Zio x) : Zqj x y = some (decide (x = y)) := by
 (unfold Zqj LF.run; dsimp only [Zuw, LT.den])
 simp only [Zkl x.Options y.Options hx.1, Zgb, Option.bind_some, Zf2, Zcz, Ze4]
 congr 1
 rw [decide_eq_decide]
 obtain ⟨a0, a1, a2, a3, a4, a5, a6⟩ := x
 obtain ⟨b0, b1, b2, b3, b4, b5, b6⟩ := y
 simp only [Za9.mk.injEq]
end Go.PW
