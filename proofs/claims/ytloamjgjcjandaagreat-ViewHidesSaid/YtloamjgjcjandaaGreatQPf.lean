import Derived.Test.YtloamjgjcjandaaGreatQPe
set_option linter.all false
set_option maxRecDepth 100000
namespace Go.PW
theorem Zgi (a b : List Int) (h : a.length * 8 ≤ 140737488351232) : Z95 a b = some (decide (a = b)) := by
 (unfold Z95 LF.run; dsimp only [Zadg, LT.den])
 rw [Zgs]
 by_cases hl : a.length = b.length
 ·rw [decide_eq_false (show ¬ a.length ≠ b.length from fun e => e hl), cond_false, Option.bind_some, Zbb]
  have r := Zc0 (step := Zu6.step) (st := fun i : Nat => Zqh.L0 a b (i : Int)) (bad := false) a b hl (fun i x y hx hy hm => by
   have hi := (List.getElem?_eq_some_iff.1 hx).1
   show (Zn5 _ _ _).den = _
   dsimp only [Zn5, LT.den]
   rw [decide_eq_true (show (i : Int) < (a.length : Int) by omega), cond_true, Z8 hx, Option.bind_some, Z8 hy, Option.bind_some, int_bne', Zat hi (by omega)]
   cases decide (x = y) <;> rfl)
  refine Eq.trans r ?_
  have he : Zaw Zu6.step (Zqh.L0 a b (a.length : Int)) = some true := Za7 (by
   show (Zn5 _ _ _).den = _
   dsimp only [Zn5, LT.den]
   rw [decide_eq_false (by omega)]; rfl)
  rw [he]
  cases decide (a = b) <;> rfl
 ·rw [decide_eq_true hl, Zha hl]; rfl
theorem Zaes (a b : List Zj) (h : a.length * 176 ≤ 140737488351232) : Zw1 a b = some (decide (a = b)) := by
 (unfold Zw1 LF.run; dsimp only [Z0y, LT.den])
 rw [Zgs]
 by_cases hl : a.length = b.length
 ·rw [decide_eq_false (show ¬ a.length ≠ b.length from fun e => e hl), cond_false, Option.bind_some, Zbb]
  have r := Zc0 (step := Znb.step) (st := fun i : Nat => Zjh.L0 a b (i : Int)) (bad := false) a b hl (fun i x y hx hy hm => by
   have hi := (List.getElem?_eq_some_iff.1 hx).1
   show (Ziv _ _ _).den = _
   dsimp only [Ziv, LT.den]
   rw [decide_eq_true (show (i : Int) < (a.length : Int) by omega), cond_true, Z8 hx, Option.bind_some, Z8 hy, Option.bind_some, Z2a, Zat hi (by omega)]
   cases decide (x = y) <;> rfl)
  refine Eq.trans r ?_
  have he : Zaw Znb.step (Zjh.L0 a b (a.length : Int)) = some true := Za7 (by
   show (Ziv _ _ _).den = _
   dsimp only [Ziv, LT.den]
   rw [decide_eq_false (by omega)]; rfl)
  rw [he]
  cases decide (a = b) <;> rfl
 ·rw [decide_eq_true hl, Zha hl]; rfl
theorem Zyx (a b : List Zj) (h : a.length * 176 ≤ 140737488351232) : Zl0 a b = some (decide (a = b)) := by
 (unfold Zl0 LF.run; dsimp only [Zrk, LT.den])
 rw [Zgs]
 by_cases hl : a.length = b.length
 ·rw [decide_eq_false (show ¬ a.length ≠ b.length from fun e => e hl), cond_false, Option.bind_some, Zbb]
  have r := Zc0 (step := Zm5.step) (st := fun i : Nat => Zg6.L0 a b (i : Int)) (bad := false) a b hl (fun i x y hx hy hm => by
   have hi := (List.getElem?_eq_some_iff.1 hx).1
   show (Zgn _ _ _).den = _
   dsimp only [Zgn, LT.den]
   rw [decide_eq_true (show (i : Int) < (a.length : Int) by omega), cond_true, Z8 hx, Option.bind_some, Z8 hy, Option.bind_some, Z2a, Zat hi (by omega)]
   cases decide (x = y) <;> rfl)
  refine Eq.trans r ?_
  have he : Zaw Zm5.step (Zg6.L0 a b (a.length : Int)) = some true := Za7 (by
   show (Zgn _ _ _).den = _
   dsimp only [Zgn, LT.den]
   rw [decide_eq_false (by omega)]; rfl)
  rw [he]
  cases decide (a = b) <;> rfl
 ·rw [decide_eq_true hl, Zha hl]; rfl
theorem Zan3 (x y : Zm) (hx : Z9 x) : Zwn x y = some (decide (x = y)) := by
 (unfold Zwn LF.run; dsimp only [Z11, LT.den])
 simp only [Zyx x.Mods y.Mods hx.2.2.2.2.1, Zadw, Z2x, Zoq, Z03, Zgb, Zf3, Zin, int_bne', Zg9, Option.bind_some, Zf2, Zcz, Ze4]
 congr 1
 rw [decide_eq_decide]
 obtain ⟨a0, a1, a2, a3, a4, a5, a6, a7, a8⟩ := x
 obtain ⟨b0, b1, b2, b3, b4, b5, b6, b7, b8⟩ := y
 simp only [Zm.mk.injEq]
 try simp only [and_assoc, and_comm, and_left_comm]
theorem Zaet (a b : List Zm) (h : a.length * 560 ≤ 140737488351232) (he : ∀ x, x ∈ a → Z9 x) : Zl1 a b = some (decide (a = b)) := by
 (unfold Zl1 LF.run; dsimp only [Zrl, LT.den])
 rw [Zgs]
 by_cases hl : a.length = b.length
 ·rw [decide_eq_false (show ¬ a.length ≠ b.length from fun e => e hl), cond_false, Option.bind_some, Zbb]
  have r := Zc0 (step := Zm6.step) (st := fun i : Nat => Zg7.L0 a b (i : Int)) (bad := false) a b hl (fun i x y hx hy hm => by
   have hi := (List.getElem?_eq_some_iff.1 hx).1
   show (Zgo _ _ _).den = _
   dsimp only [Zgo, LT.den]
   rw [decide_eq_true (show (i : Int) < (a.length : Int) by omega), cond_true, Z8 hx, Option.bind_some, Z8 hy, Option.bind_some, (Zan3 x y (he x hm)), Option.bind_some, Zat hi (by omega)]
   cases decide (x = y) <;> rfl)
  refine Eq.trans r ?_
  have he : Zaw Zm6.step (Zg7.L0 a b (a.length : Int)) = some true := Za7 (by
   show (Zgo _ _ _).den = _
   dsimp only [Zgo, LT.den]
   rw [decide_eq_false (by omega)]; rfl)
  rw [he]
  cases decide (a = b) <;> rfl
 ·rw [decide_eq_true hl, Zha hl]; rfl
theorem Zag3 {S R : Type} {step : S → Option (S ⊕ R)} (s : S) : Zaw step s = (step s).bind (Zls step) := by
 cases h : step s with
 | none => rw [Z6m, h]; rfl
 | some y => cases y with
  | inl s' => rw [Zcw h]; rfl
  | inr r => rw [Za7 h]; rfl
theorem Zkm {S α β : Type} {step : S → Option (S ⊕ Bool)} {a : List α} {b : List β} {k : Option (S ⊕ Bool)} {q : Prop} [Decidable q] (hq : q → a.length = b.length) (h : a.length = b.length → k.bind (Zls step) = some (decide q)) : (bif ((a.length : Int) != (b.length : Int)) then some (.inr false) else k).bind (Zls step) = some (decide q) := by
 rw [Zgs]
 by_cases e : a.length = b.length
 ·rw [decide_eq_false (show ¬ a.length ≠ b.length from fun f => f e)]; exact h e
 ·rw [decide_eq_true (show a.length ≠ b.length from e), decide_eq_false (fun f => e (hq f))]; rfl
theorem Zk3 {S : Type} {step : S → Option (S ⊕ Bool)} {b : Bool} {k : Option (S ⊕ Bool)} {p q : Prop} [Decidable p] [Decidable q] (hb : b = !decide p) (h : p → k.bind (Zls step) = some (decide q)) : (bif b then some (.inr false) else k).bind (Zls step) = some (decide (p ∧ q)) := by
 subst hb
 by_cases e : p
 ·rw [decide_eq_true e]; refine (h e).trans ?_; congr 1; rw [decide_eq_decide]; simp [e]
 ·rw [decide_eq_false e, decide_eq_false (fun f => e f.1)]; rfl
theorem Zyy {α : Type} {b : Bool} {k : Option α} {A B : α} {p q : Prop} [Decidable p] [Decidable q] (hb : b = !decide p) (h : k = some (bif decide q then A else B)) : (bif b then some B else k) = some (bif decide (p ∧ q) then A else B) := by
 subst hb; subst h
 by_cases e : p
 ·rw [decide_eq_true e]; simp [e]
 ·rw [decide_eq_false e, decide_eq_false (show ¬ (p ∧ q) from fun f => e f.1)]; rfl
theorem Z8z (x y : Zl) (hx : Za0 x) : Zwo x y = some (decide (x = y)) := by
 have hb : x.Specs.length * 144 ≤ 140737488351232 := hx.2.2.2.1.1
 (unfold Zwo LF.run; dsimp only [Z12, LT.den])
 refine (Zkm (a := x.Specs) (b := y.Specs) (fun e => by rw [e]) fun hl => ?_)
 rw [Option.bind_some, Zbb]
 have r := Zc0 (step := Z13.step) (st := fun i : Nat => Zm7.L0 x y (i : Int)) (bad := false) x.Specs y.Specs hl (fun i u v hu hv hm => by
  have hi := (List.getElem?_eq_some_iff.1 hu).1
  show (Ziz _ _ _).den = _
  dsimp only [Ziz, LT.den]
  rw [decide_eq_true (show (i : Int) < (x.Specs.length : Int) by omega), cond_true, Z8 hu, Option.bind_some, Z8 hv, Option.bind_some, Z8u, Zat hi (by omega)]
  cases decide (u = v) <;> rfl)
 refine Eq.trans r ?_
 refine Eq.trans (b := bif decide (x.Specs = y.Specs) then some (decide (x = y)) else some false) ?_ (by
  by_cases e : x.Specs = y.Specs
  ·rw [decide_eq_true e]; rfl
  ·rw [decide_eq_false e, decide_eq_false (fun h => e (by rw [h]))]; rfl)
 by_cases e : x.Specs = y.Specs
 ·rw [decide_eq_true e, cond_true, cond_true]
  refine Eq.trans (Zag3 _) ?_
  show Option.bind (Ziz _ _ _).den _ = _
  dsimp only [Ziz, LT.den]
  rw [decide_eq_false (by omega)]
  simp only [cond_false, Zyx x.Mods y.Mods hx.2.1.1, Zaet x.Effects y.Effects hx.2.2.2.2.1.1 hx.2.2.2.2.1.2, Zoq, Z5j, Z01, Z02, Zgb, Zf3, Zin, int_bne', Zg9, Option.bind_some, Zf2, Zcz, Ze4]
  congr 1
  rw [decide_eq_decide]
  obtain ⟨a0, a1, a2, a3, a4, a5, a6, a7, a8, a9⟩ := x
  obtain ⟨b0, b1, b2, b3, b4, b5, b6, b7, b8, b9⟩ := y
  simp only at e
  subst e
  simp only [Zl.mk.injEq, true_and, and_true]
  try simp only [and_assoc, and_comm, and_left_comm]
 ·rw [decide_eq_false e]; rfl
theorem Zaeu (x y : Z4) (hx : Zfx x) : Zw0 x y = some (decide (x = y)) := by
 have hb : x.Targets.length * 16 ≤ 140737488351232 := hx.2.1
 (unfold Zw0 LF.run; dsimp only [Z0x, LT.den])
 refine (Zkm (a := x.Targets) (b := y.Targets) (fun e => by rw [e]) fun hl => ?_)
 rw [Option.bind_some, Zbb]
 have r := Zc0 (step := Zrn.step) (st := fun i : Nat => Zna.L0 x y (i : Int)) (bad := false) x.Targets y.Targets hl (fun i u v hu hv hm => by
  have hi := (List.getElem?_eq_some_iff.1 hu).1
  show (Ziu _ _ _).den = _
  dsimp only [Ziu, LT.den]
  rw [decide_eq_true (show (i : Int) < (x.Targets.length : Int) by omega), cond_true, Z8 hu, Option.bind_some, Z8 hv, Option.bind_some, Z2z, Zat hi (by omega)]
  cases decide (u = v) <;> rfl)
 refine Eq.trans r ?_
 refine Eq.trans (b := bif decide (x.Targets = y.Targets) then some (decide (x = y)) else some false) ?_ (by
  by_cases e : x.Targets = y.Targets
  ·rw [decide_eq_true e]; rfl
  ·rw [decide_eq_false e, decide_eq_false (fun h => e (by rw [h]))]; rfl)
 by_cases e : x.Targets = y.Targets
 ·rw [decide_eq_true e, cond_true, cond_true]
  refine Eq.trans (Zag3 _) ?_
  show Option.bind (Ziu _ _ _).den _ = _
  dsimp only [Ziu, LT.den]
  rw [decide_eq_false (by omega)]
  simp only [cond_false, Z8z x.Ability y.Ability hx.1, Zqo, Zgb, Zf3, Zin, int_bne', Zg9, Option.bind_some, Zf2, Zcz, Ze4]
  congr 1
  rw [decide_eq_decide]
  obtain ⟨a0, a1, a2, a3, a4, a5, a6, a7, a8⟩ := x
  obtain ⟨b0, b1, b2, b3, b4, b5, b6, b7, b8⟩ := y
  simp only at e
  subst e
  simp only [Z4.mk.injEq, true_and, and_true]
  try simp only [and_assoc, and_comm, and_left_comm]
 ·rw [decide_eq_false e]; rfl
theorem Z64 (x y : Zv) (hx : Zf0 x) : Zrm x y = some (decide (x = y)) := by
 (unfold Zrm LF.run; dsimp only [Zwy, LT.den])
 simp only [Zgi x.Library y.Library hx.1.1, Zgi x.Hand y.Hand hx.2.1.1, Zgi x.Graveyard y.Graveyard hx.2.2.1, Z03, Zgb, Zf3, Zin, int_bne', Zg9, Option.bind_some, Zf2, Zcz, Ze4]
 congr 1
 rw [decide_eq_decide]
 obtain ⟨a0, a1, a2, a3, a4, a5, a6, a7, a8⟩ := x
 obtain ⟨b0, b1, b2, b3, b4, b5, b6, b7, b8⟩ := y
 simp only [Zv.mk.injEq]
 try simp only [and_assoc, and_comm, and_left_comm]
theorem Z58 (x y : Zz) (hx : Zhb x) : Zqk x y = some (decide (x = y)) := by
 (unfold Zqk LF.run; dsimp only [Zuy, LT.den])
 simp only [Z8z x.Ability y.Ability hx, Zqo, Zgb, Zf3, Zin, int_bne', Zg9, Option.bind_some, Zf2, Zcz, Ze4]
 congr 1
 rw [decide_eq_decide]
 obtain ⟨a0, a1, a2, a3⟩ := x
 obtain ⟨b0, b1, b2, b3⟩ := y
 simp only [Zz.mk.injEq]
 try simp only [and_assoc, and_comm, and_left_comm]
theorem Zaev (x y : Zaf) (hx : Zi1 x) : Zw2 x y = some (decide (x = y)) := by
 (unfold Zw2 LF.run; dsimp only [Z0z, LT.den])
 simp only [Zgi x.Objects y.Objects hx.1.1, Zaes x.Mods y.Mods hx.2.1, Zgb, Zf3, Zin, int_bne', Zg9, Option.bind_some, Zf2, Zcz, Ze4]
 congr 1
 rw [decide_eq_decide]
 obtain ⟨a0, a1, a2, a3, a4, a5⟩ := x
 obtain ⟨b0, b1, b2, b3, b4, b5⟩ := y
 simp only [Zaf.mk.injEq]
 try simp only [and_assoc, and_comm, and_left_comm]
theorem Zamu (x y : Za) (hx : Zw x) : Z5f x y = some (decide (x.Players = y.Players ∧ x.Objects = y.Objects ∧ x.Stack = y.Stack ∧ x.Waiting = y.Waiting ∧ x.Conts = y.Conts)) := by
 (unfold Z5f LF.run; dsimp only [Z8q, LT.den])
 refine (Zkm (a := x.Players) (b := y.Players) (fun e => by rw [e.1]) fun hl0 => ?_)
 refine (Zkm (a := x.Objects) (b := y.Objects) (fun e => by rw [e.2.1]) fun hl1 => ?_)
 refine (Zkm (a := x.Stack) (b := y.Stack) (fun e => by rw [e.2.2.1]) fun hl2 => ?_)
 refine (Zkm (a := x.Waiting) (b := y.Waiting) (fun e => by rw [e.2.2.2.1]) fun hl3 => ?_)
 refine (Zkm (a := x.Conts) (b := y.Conts) (fun e => by rw [e.2.2.2.2]) fun hl4 => ?_)
 rw [Option.bind_some, Zbb]
 have l4 : Zaw Zc2.step (Zb1.L4 x y 0) = some (decide (x.Conts = y.Conts)) := by
  have hb : x.Conts.length * 80 ≤ 140737488351232 := hx.2.2.2.2.2.2.1.1
  have r := Zc0 (step := Zc2.step) (st := fun i : Nat => Zb1.L4 x y (i : Int)) (bad := false) x.Conts y.Conts hl4 (fun i u v hu hv hm => by
   have hi := (List.getElem?_eq_some_iff.1 hu).1
   show (Zmh _ _ _).den = _
   dsimp only [Zmh, LT.den]
   rw [decide_eq_true (show (i : Int) < (x.Conts.length : Int) by omega), cond_true, Z8 hu, Option.bind_some, Z8 hv, Option.bind_some, Zaev u v (hx.2.2.2.2.2.2.1.2 u hm), Option.bind_some, Zat hi (by omega)]
   cases decide (u = v) <;> rfl)
  refine Eq.trans r ?_
  have he : Zaw Zc2.step (Zb1.L4 x y (x.Conts.length : Int)) = some true := Za7 (by
   show (Zmh _ _ _).den = _
   dsimp only [Zmh, LT.den]
   rw [decide_eq_false (by omega)]; rfl)
  rw [he]
  cases decide (x.Conts = y.Conts) <;> rfl
 have l3 : Zaw Zc2.step (Zb1.L3 x y 0) = some (decide (x.Waiting = y.Waiting ∧ x.Conts = y.Conts)) := by
  have hb : x.Waiting.length * 768 ≤ 140737488351232 := hx.2.2.2.2.2.1.1
  have r := Zc0 (step := Zc2.step) (st := fun i : Nat => Zb1.L3 x y (i : Int)) (bad := false) x.Waiting y.Waiting hl3 (fun i u v hu hv hm => by
   have hi := (List.getElem?_eq_some_iff.1 hu).1
   show (Zmg _ _ _).den = _
   dsimp only [Zmg, LT.den]
   rw [decide_eq_true (show (i : Int) < (x.Waiting.length : Int) by omega), cond_true, Z8 hu, Option.bind_some, Z8 hv, Option.bind_some, Z58 u v (hx.2.2.2.2.2.1.2 u hm), Option.bind_some, Zat hi (by omega)]
   cases decide (u = v) <;> rfl)
  refine Eq.trans r ?_
  have he : Zaw Zc2.step (Zb1.L3 x y (x.Waiting.length : Int)) = some (decide (x.Conts = y.Conts)) := Eq.trans (Zcw (by
   show (Zmg _ _ _).den = _
   dsimp only [Zmg, LT.den]
   rw [decide_eq_false (by omega)]; rfl)) l4
  rw [he]
  exact Ze4 _ _
 have l2 : Zaw Zc2.step (Zb1.L2 x y 0) = some (decide (x.Stack = y.Stack ∧ x.Waiting = y.Waiting ∧ x.Conts = y.Conts)) := by
  have hb : x.Stack.length * 824 ≤ 140737488351232 := hx.2.2.2.2.1.1
  have r := Zc0 (step := Zc2.step) (st := fun i : Nat => Zb1.L2 x y (i : Int)) (bad := false) x.Stack y.Stack hl2 (fun i u v hu hv hm => by
   have hi := (List.getElem?_eq_some_iff.1 hu).1
   show (Zmf _ _ _).den = _
   dsimp only [Zmf, LT.den]
   rw [decide_eq_true (show (i : Int) < (x.Stack.length : Int) by omega), cond_true, Z8 hu, Option.bind_some, Z8 hv, Option.bind_some, Zaeu u v (hx.2.2.2.2.1.2 u hm), Option.bind_some, Zat hi (by omega)]
   cases decide (u = v) <;> rfl)
  refine Eq.trans r ?_
  have he : Zaw Zc2.step (Zb1.L2 x y (x.Stack.length : Int)) = some (decide (x.Waiting = y.Waiting ∧ x.Conts = y.Conts)) := Eq.trans (Zcw (by
   show (Zmf _ _ _).den = _
   dsimp only [Zmf, LT.den]
   rw [decide_eq_false (by omega)]; rfl)) l3
  rw [he]
  exact Ze4 _ _
 have l1 : Zaw Zc2.step (Zb1.L1 x y 0) = some (decide (x.Objects = y.Objects ∧ x.Stack = y.Stack ∧ x.Waiting = y.Waiting ∧ x.Conts = y.Conts)) := by
  have hb : x.Objects.length * 128 ≤ 140737488351232 := hx.2.1.1
  have r := Zc0 (step := Zc2.step) (st := fun i : Nat => Zb1.L1 x y (i : Int)) (bad := false) x.Objects y.Objects hl1 (fun i u v hu hv hm => by
   have hi := (List.getElem?_eq_some_iff.1 hu).1
   show (Zme _ _ _).den = _
   dsimp only [Zme, LT.den]
   rw [decide_eq_true (show (i : Int) < (x.Objects.length : Int) by omega), cond_true, Z8 hu, Option.bind_some, Z8 hv, Option.bind_some, Z2y, Zat hi (by omega)]
   cases decide (u = v) <;> rfl)
  refine Eq.trans r ?_
  have he : Zaw Zc2.step (Zb1.L1 x y (x.Objects.length : Int)) = some (decide (x.Stack = y.Stack ∧ x.Waiting = y.Waiting ∧ x.Conts = y.Conts)) := Eq.trans (Zcw (by
   show (Zme _ _ _).den = _
   dsimp only [Zme, LT.den]
   rw [decide_eq_false (by omega)]; rfl)) l2
  rw [he]
  exact Ze4 _ _
 have l0 : Zaw Zc2.step (Zb1.L0 x y 0) = some (decide (x.Players = y.Players ∧ x.Objects = y.Objects ∧ x.Stack = y.Stack ∧ x.Waiting = y.Waiting ∧ x.Conts = y.Conts)) := by
  have hb : x.Players.length * 152 ≤ 140737488351232 := hx.1.1
  have r := Zc0 (step := Zc2.step) (st := fun i : Nat => Zb1.L0 x y (i : Int)) (bad := false) x.Players y.Players hl0 (fun i u v hu hv hm => by
   have hi := (List.getElem?_eq_some_iff.1 hu).1
   show (Zmd _ _ _).den = _
   dsimp only [Zmd, LT.den]
   rw [decide_eq_true (show (i : Int) < (x.Players.length : Int) by omega), cond_true, Z8 hu, Option.bind_some, Z8 hv, Option.bind_some, Z64 u v (hx.1.2 u hm), Option.bind_some, Zat hi (by omega)]
   cases decide (u = v) <;> rfl)
  refine Eq.trans r ?_
  have he : Zaw Zc2.step (Zb1.L0 x y (x.Players.length : Int)) = some (decide (x.Objects = y.Objects ∧ x.Stack = y.Stack ∧ x.Waiting = y.Waiting ∧ x.Conts = y.Conts)) := Eq.trans (Zcw (by
   show (Zmd _ _ _).den = _
   dsimp only [Zmd, LT.den]
   rw [decide_eq_false (by omega)]; rfl)) l1
  rw [he]
  exact Ze4 _ _
 exact l0
theorem Zan4 (x y : Za) (hx : Zw x) : Zaaa x y = some (decide (x = y)) := by
 (unfold Zaaa LF.run; dsimp only [Zadm, LT.den])
 simp only [Zamu x y hx, Zgi x.Battlefield y.Battlefield hx.2.2.1.1, Zgi x.Exile y.Exile hx.2.2.2.1.1, Zgi x.Extra y.Extra hx.2.2.2.2.2.2.2.1, Zgb, Zf3, Zin, int_bne', Zg9, Option.bind_some, Zf2, Zcz, Ze4]
 congr 1
 rw [decide_eq_decide]
 obtain ⟨a0, a1, a2, a3, a4, a5, a6, a7, a8, a9, a10, a11, a12, a13, a14, a15, a16, a17, a18⟩ := x
 obtain ⟨b0, b1, b2, b3, b4, b5, b6, b7, b8, b9, b10, b11, b12, b13, b14, b15, b16, b17, b18⟩ := y
 simp only [Za.mk.injEq]
 try simp only [and_assoc, and_comm, and_left_comm]
theorem Zaf7 (x y : Za9) (hx : Zio x) : Zzw x y = some (decide (x = y)) := by
 have hb : x.Options.length * 24 ≤ 140737488351232 := hx.1
 (unfold Zzw LF.run; dsimp only [Z2u, LT.den])
 refine ((Zk3 (int_bne' _ _) fun h1 => Zk3 (int_bne' _ _) fun h2 => Zk3 (int_bne' _ _) fun h3 => Zk3 (int_bne' _ _) fun h4 => Zk3 (int_bne' _ _) fun h5 => Zk3 (int_bne' _ _) fun h6 => Zkm (q := x.Options = y.Options) (a := x.Options) (b := y.Options) (fun e => by rw [e]) fun hl => ?_).trans ?_)
 ·rw [Option.bind_some, Zbb]
  have r := Zc0 (step := Zoo.step) (st := fun i : Nat => Zks.L0 x y (i : Int)) (bad := false) x.Options y.Options hl (fun i u v hu hv hm => by
   have hi := (List.getElem?_eq_some_iff.1 hu).1
   show (Zjg _ _ _).den = _
   dsimp only [Zjg, LT.den]
   rw [decide_eq_true (show (i : Int) < (x.Options.length : Int) by omega), cond_true, Z8 hu, Option.bind_some, Z8 hv, Option.bind_some, Z20, Zat hi (by omega)]
   cases decide (u = v) <;> rfl)
  refine Eq.trans r ?_
  have he : Zaw Zoo.step (Zks.L0 x y (x.Options.length : Int)) = some true := Za7 (by
   show (Zjg _ _ _).den = _
   dsimp only [Zjg, LT.den]
   rw [decide_eq_false (by omega)]; rfl)
  rw [he]
  cases decide (x.Options = y.Options) <;> rfl
 ·congr 1
  rw [decide_eq_decide]
  obtain ⟨a0, a1, a2, a3, a4, a5, a6⟩ := x
  obtain ⟨b0, b1, b2, b3, b4, b5, b6⟩ := y
  simp only [Za9.mk.injEq]
abbrev Z6q (x : Zab) : Za := ⟨[], x.Objects, x.Battlefield, x.Exile, x.Stack, x.Waiting, x.Conts, x.Turn, x.Active, x.Step, false, x.Priority, x.Passes, x.NextId, 0, 0, x.Extra, x.Over, x.Winner⟩
theorem Zan5 (x y : Zab) (hx : Zz5 x) : Zaab x y = some (decide (x = y)) := by
 have hb : x.Players.length * 120 ≤ 140737488351232 := hx.1.1
 have hp : Zw (Z6q x) := ⟨SzL.nil, hx.2.2.1, hx.2.2.2.1, hx.2.2.2.2.1, hx.2.2.2.2.2.1, hx.2.2.2.2.2.2.1, hx.2.2.2.2.2.2.2.1, hx.2.2.2.2.2.2.2.2.1⟩
 (unfold Zaab LF.run; dsimp only [Zado, LT.den])
 rw [Zgi _ _ hx.2.1.1, Option.bind_some, Zaf7 _ _ hx.2.2.2.2.2.2.2.2.2, Option.bind_some, show Z17 x = some (Z6q x) from rfl, Option.bind_some, show Z17 y = some (Z6q y) from rfl, Option.bind_some, Zan4 _ _ hp, Option.bind_some]
 refine ((Zk3 (int_bne' _ _) fun h1 => Zkm (a := x.Players) (b := y.Players) (q := x.Hand = y.Hand ∧ x.Pending = y.Pending ∧ Z6q x = Z6q y ∧ x.Players = y.Players) (fun e => by rw [e.2.2.2]) fun hl => Zk3 rfl fun h2 => Zk3 rfl fun h3 => Zk3 rfl fun h4 => ?_).trans ?_)
 ·rw [Option.bind_some, Zbb]
  have r := Zc0 (step := Zu7.step) (st := fun i : Nat => Zql.L0 x y (i : Int)) (bad := false) x.Players y.Players hl (fun i u v hu hv hm => by
   have hi := (List.getElem?_eq_some_iff.1 hu).1
   have hsu := (hx.1.2 u hm).1
   show (Zoa _ _ _).den = _
   dsimp only [Zoa, LT.den]
   rw [decide_eq_true (show (i : Int) < (x.Players.length : Int) by omega), cond_true, Z8 hu, Option.bind_some, Z8 hv, Option.bind_some, Zat hi (by omega), Zgi _ _ hsu, Option.bind_some]
   refine (Zyy (int_bne' _ _) (Zyy (int_bne' _ _) (Zyy (int_bne' _ _) (Zyy (int_bne' _ _) (Zyy (int_bne' _ _) (Zyy (by rw [Z03]) (Zyy (by rw [Zf3]) (Zyy (q := True) rfl rfl)))))))).trans ?_
   congr 2
   rw [decide_eq_decide]
   obtain ⟨a0, a1, a2, a3, a4, a5, a6, a7⟩ := u
   obtain ⟨b0, b1, b2, b3, b4, b5, b6, b7⟩ := v
   simp only [Zb4.mk.injEq, and_true])
  refine Eq.trans r ?_
  have he : Zaw Zu7.step (Zql.L0 x y (x.Players.length : Int)) = some true := Za7 (by
   show (Zoa _ _ _).den = _
   dsimp only [Zoa, LT.den]
   rw [decide_eq_false (by omega)]; rfl)
  rw [he]
  cases decide (x.Players = y.Players) <;> rfl
 ·congr 1
  rw [decide_eq_decide]
  obtain ⟨a0, a1, a2, a3, a4, a5, a6, a7, a8, a9, a10, a11, a12, a13, a14, a15, a16, a17, a18⟩ := x
  obtain ⟨b0, b1, b2, b3, b4, b5, b6, b7, b8, b9, b10, b11, b12, b13, b14, b15, b16, b17, b18⟩ := y
  simp only [Z6q, Za.mk.injEq, Zab.mk.injEq, true_and]
  simp only [and_assoc, and_comm, and_left_comm]
theorem Zxf (x y : Zab) (hx : Zz5 x) : Z5a x y = some (decide (x = y)) := by
 (unfold Z5a LF.run; dsimp only [Z8k, LT.den]; dsimp only [Zh8, LT.den])
 simp only [Zdj x.Hand y.Hand hx.2.1.1, Zkj x.Objects y.Objects hx.2.2.1.1, Zdj x.Battlefield y.Battlefield hx.2.2.2.1.1, Zdj x.Exile y.Exile hx.2.2.2.2.1.1, Zdj x.Extra y.Extra hx.2.2.2.2.2.2.2.2.1.1, Zey x.Players y.Players hx.1.1 hx.1.2, Zez x.Stack y.Stack hx.2.2.2.2.2.1.1 hx.2.2.2.2.2.1.2, Zdo x.Waiting y.Waiting hx.2.2.2.2.2.2.1.1 hx.2.2.2.2.2.2.1.2, Ze0 x.Conts y.Conts hx.2.2.2.2.2.2.2.1.1 hx.2.2.2.2.2.2.2.1.2, Z56 x.Pending y.Pending hx.2.2.2.2.2.2.2.2.2, Zgb, Zf3, int_bne', Zg9, Option.bind_some, Zf2, Zcz, Ze4]
 simp only [cond_false, Ze4]
 congr 1
 rw [decide_eq_decide]
 obtain ⟨a0, a1, a2, a3, a4, a5, a6, a7, a8, a9, a10, a11, a12, a13, a14, a15, a16, a17, a18⟩ := x
 obtain ⟨b0, b1, b2, b3, b4, b5, b6, b7, b8, b9, b10, b11, b12, b13, b14, b15, b16, b17, b18⟩ := y
 simp only [Zab.mk.injEq]
 simp only [and_assoc, and_comm, and_left_comm]
end Go.PW
