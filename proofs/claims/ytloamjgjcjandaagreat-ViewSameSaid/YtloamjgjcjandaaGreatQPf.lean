import Derived.Test.YtloamjgjcjandaaGreatQPe
set_option linter.all false
set_option maxRecDepth 100000
namespace Go.PW
theorem Zgi (a b : List Int) (h : a.length * 8 ≤ 140737488351232) : Z9m a b = some (decide (a = b)) := by
 (unfold Z9m LF.run; dsimp only [Zacy, LT.den])
 rw [Zgq]
 by_cases hl : a.length = b.length
 ·rw [decide_eq_false (show ¬ a.length ≠ b.length from fun e => e hl), cond_false, Option.bind_some, Zbt]
  have r := Zc0 (step := Zud.step) (st := fun i : Nat => Zpt.L0 a b (i : Int)) (bad := false) a b hl (fun i x y hx hy hm => by
   have hi := (List.getElem?_eq_some_iff.1 hx).1
   show (Zni _ _ _).den = _
   dsimp only [Zni, LT.den]
   rw [decide_eq_true (show (i : Int) < (a.length : Int) by omega), cond_true, Zag hx, Option.bind_some, Zag hy, Option.bind_some, int_bne', Zaw hi (by omega)]
   cases decide (x = y) <;> rfl)
  refine Eq.trans r ?_
  have he : Za4 Zud.step (Zpt.L0 a b (a.length : Int)) = some true := Zbf (by
   show (Zni _ _ _).den = _
   dsimp only [Zni, LT.den]
   rw [decide_eq_false (by omega)]; rfl)
  rw [he]
  cases decide (a = b) <;> rfl
 ·rw [decide_eq_true hl, Zg5 hl]; rfl
theorem Zaea (a b : List Zj) (h : a.length * 176 ≤ 140737488351232) : Zv8 a b = some (decide (a = b)) := by
 (unfold Zv8 LF.run; dsimp only [Zzz, LT.den])
 rw [Zgq]
 by_cases hl : a.length = b.length
 ·rw [decide_eq_false (show ¬ a.length ≠ b.length from fun e => e hl), cond_false, Option.bind_some, Zbt]
  have r := Zc0 (step := Zmq.step) (st := fun i : Nat => Zi7.L0 a b (i : Int)) (bad := false) a b hl (fun i x y hx hy hm => by
   have hi := (List.getElem?_eq_some_iff.1 hx).1
   show (Zim _ _ _).den = _
   dsimp only [Zim, LT.den]
   rw [decide_eq_true (show (i : Int) < (a.length : Int) by omega), cond_true, Zag hx, Option.bind_some, Zag hy, Option.bind_some, Z1c, Zaw hi (by omega)]
   cases decide (x = y) <;> rfl)
  refine Eq.trans r ?_
  have he : Za4 Zmq.step (Zi7.L0 a b (a.length : Int)) = some true := Zbf (by
   show (Zim _ _ _).den = _
   dsimp only [Zim, LT.den]
   rw [decide_eq_false (by omega)]; rfl)
  rw [he]
  cases decide (a = b) <;> rfl
 ·rw [decide_eq_true hl, Zg5 hl]; rfl
theorem Zx1 (a b : List Zj) (h : a.length * 176 ≤ 140737488351232) : Zlj a b = some (decide (a = b)) := by
 (unfold Zlj LF.run; dsimp only [Zqx, LT.den])
 rw [Zgq]
 by_cases hl : a.length = b.length
 ·rw [decide_eq_false (show ¬ a.length ≠ b.length from fun e => e hl), cond_false, Option.bind_some, Zbt]
  have r := Zc0 (step := Zml.step) (st := fun i : Nat => Zg1.L0 a b (i : Int)) (bad := false) a b hl (fun i x y hx hy hm => by
   have hi := (List.getElem?_eq_some_iff.1 hx).1
   show (Zgl _ _ _).den = _
   dsimp only [Zgl, LT.den]
   rw [decide_eq_true (show (i : Int) < (a.length : Int) by omega), cond_true, Zag hx, Option.bind_some, Zag hy, Option.bind_some, Z1c, Zaw hi (by omega)]
   cases decide (x = y) <;> rfl)
  refine Eq.trans r ?_
  have he : Za4 Zml.step (Zg1.L0 a b (a.length : Int)) = some true := Zbf (by
   show (Zgl _ _ _).den = _
   dsimp only [Zgl, LT.den]
   rw [decide_eq_false (by omega)]; rfl)
  rw [he]
  cases decide (a = b) <;> rfl
 ·rw [decide_eq_true hl, Zg5 hl]; rfl
theorem Zanh (x y : Zl) (hx : Zaa x) : Zvt x y = some (decide (x = y)) := by
 (unfold Zvt LF.run; dsimp only [Z02, LT.den])
 simp only [Zx1 x.Mods y.Mods hx.2.2.2.2.1, Zadd, Z14, Zn3, Zz6, Zgp, Zf3, Zie, int_bne', Zg4, Option.bind_some, Zf2, Zef, Ze4]
 congr 1
 rw [decide_eq_decide]
 obtain ⟨a0, a1, a2, a3, a4, a5, a6, a7, a8⟩ := x
 obtain ⟨b0, b1, b2, b3, b4, b5, b6, b7, b8⟩ := y
 simp only [Zl.mk.injEq]
 try simp only [and_assoc, and_comm, and_left_comm]
theorem Zaeb (a b : List Zl) (h : a.length * 560 ≤ 140737488351232) (he : ∀ x, x ∈ a → Zaa x) : Zlk a b = some (decide (a = b)) := by
 (unfold Zlk LF.run; dsimp only [Zqy, LT.den])
 rw [Zgq]
 by_cases hl : a.length = b.length
 ·rw [decide_eq_false (show ¬ a.length ≠ b.length from fun e => e hl), cond_false, Option.bind_some, Zbt]
  have r := Zc0 (step := Zmm.step) (st := fun i : Nat => Zg2.L0 a b (i : Int)) (bad := false) a b hl (fun i x y hx hy hm => by
   have hi := (List.getElem?_eq_some_iff.1 hx).1
   show (Zgm _ _ _).den = _
   dsimp only [Zgm, LT.den]
   rw [decide_eq_true (show (i : Int) < (a.length : Int) by omega), cond_true, Zag hx, Option.bind_some, Zag hy, Option.bind_some, (Zanh x y (he x hm)), Option.bind_some, Zaw hi (by omega)]
   cases decide (x = y) <;> rfl)
  refine Eq.trans r ?_
  have he : Za4 Zmm.step (Zg2.L0 a b (a.length : Int)) = some true := Zbf (by
   show (Zgm _ _ _).den = _
   dsimp only [Zgm, LT.den]
   rw [decide_eq_false (by omega)]; rfl)
  rw [he]
  cases decide (a = b) <;> rfl
 ·rw [decide_eq_true hl, Zg5 hl]; rfl
theorem Zagr {S R : Type} {step : S → Option (S ⊕ R)} (s : S) : Za4 step s = (step s).bind (Zlc step) := by
 cases h : step s with
 | none => rw [Z50, h]; rfl
 | some y => cases y with
  | inl s' => rw [Zdg h]; rfl
  | inr r => rw [Zbf h]; rfl
theorem Zka {S α β : Type} {step : S → Option (S ⊕ Bool)} {a : List α} {b : List β} {k : Option (S ⊕ Bool)} {q : Prop} [Decidable q] (hq : q → a.length = b.length) (h : a.length = b.length → k.bind (Zlc step) = some (decide q)) : (bif ((a.length : Int) != (b.length : Int)) then some (.inr false) else k).bind (Zlc step) = some (decide q) := by
 rw [Zgq]
 by_cases e : a.length = b.length
 ·rw [decide_eq_false (show ¬ a.length ≠ b.length from fun f => f e)]; exact h e
 ·rw [decide_eq_true (show a.length ≠ b.length from e), decide_eq_false (fun f => e (hq f))]; rfl
theorem Zkp {S : Type} {step : S → Option (S ⊕ Bool)} {b : Bool} {k : Option (S ⊕ Bool)} {p q : Prop} [Decidable p] [Decidable q] (hb : b = !decide p) (h : p → k.bind (Zlc step) = some (decide q)) : (bif b then some (.inr false) else k).bind (Zlc step) = some (decide (p ∧ q)) := by
 subst hb
 by_cases e : p
 ·rw [decide_eq_true e]; refine (h e).trans ?_; congr 1; rw [decide_eq_decide]; simp [e]
 ·rw [decide_eq_false e, decide_eq_false (fun f => e f.1)]; rfl
theorem Zx2 {α : Type} {b : Bool} {k : Option α} {A B : α} {p q : Prop} [Decidable p] [Decidable q] (hb : b = !decide p) (h : k = some (bif decide q then A else B)) : (bif b then some B else k) = some (bif decide (p ∧ q) then A else B) := by
 subst hb; subst h
 by_cases e : p
 ·rw [decide_eq_true e]; simp [e]
 ·rw [decide_eq_false e, decide_eq_false (show ¬ (p ∧ q) from fun f => e f.1)]; rfl
theorem Z8h (x y : Zk) (hx : Za1 x) : Zvu x y = some (decide (x = y)) := by
 have hb : x.Specs.length * 144 ≤ 140737488351232 := hx.2.2.2.1.1
 (unfold Zvu LF.run; dsimp only [Z03, LT.den])
 refine (Zka (a := x.Specs) (b := y.Specs) (fun e => by rw [e]) fun hl => ?_)
 rw [Option.bind_some, Zbt]
 have r := Zc0 (step := Z04.step) (st := fun i : Nat => Zmn.L0 x y (i : Int)) (bad := false) x.Specs y.Specs hl (fun i u v hu hv hm => by
  have hi := (List.getElem?_eq_some_iff.1 hu).1
  show (Zip _ _ _).den = _
  dsimp only [Zip, LT.den]
  rw [decide_eq_true (show (i : Int) < (x.Specs.length : Int) by omega), cond_true, Zag hu, Option.bind_some, Zag hv, Option.bind_some, Z8b, Zaw hi (by omega)]
  cases decide (u = v) <;> rfl)
 refine Eq.trans r ?_
 refine Eq.trans (b := bif decide (x.Specs = y.Specs) then some (decide (x = y)) else some false) ?_ (by
  by_cases e : x.Specs = y.Specs
  ·rw [decide_eq_true e]; rfl
  ·rw [decide_eq_false e, decide_eq_false (fun h => e (by rw [h]))]; rfl)
 by_cases e : x.Specs = y.Specs
 ·rw [decide_eq_true e, cond_true, cond_true]
  refine Eq.trans (Zagr _) ?_
  show Option.bind (Zip _ _ _).den _ = _
  dsimp only [Zip, LT.den]
  rw [decide_eq_false (by omega)]
  simp only [cond_false, Zx1 x.Mods y.Mods hx.2.1.1, Zaeb x.Effects y.Effects hx.2.2.2.2.1.1 hx.2.2.2.2.1.2, Zn3, Z4v, Zz4, Zz5, Zgp, Zf3, Zie, int_bne', Zg4, Option.bind_some, Zf2, Zef, Ze4]
  congr 1
  rw [decide_eq_decide]
  obtain ⟨a0, a1, a2, a3, a4, a5, a6, a7, a8, a9⟩ := x
  obtain ⟨b0, b1, b2, b3, b4, b5, b6, b7, b8, b9⟩ := y
  simp only at e
  subst e
  simp only [Zk.mk.injEq, true_and, and_true]
  try simp only [and_assoc, and_comm, and_left_comm]
 ·rw [decide_eq_false e]; rfl
theorem Zaec (x y : Z6) (hx : Zfx x) : Zv7 x y = some (decide (x = y)) := by
 have hb : x.Targets.length * 16 ≤ 140737488351232 := hx.2.1
 (unfold Zv7 LF.run; dsimp only [Zzy, LT.den])
 refine (Zka (a := x.Targets) (b := y.Targets) (fun e => by rw [e]) fun hl => ?_)
 rw [Option.bind_some, Zbt]
 have r := Zc0 (step := Zq1.step) (st := fun i : Nat => Zmp.L0 x y (i : Int)) (bad := false) x.Targets y.Targets hl (fun i u v hu hv hm => by
  have hi := (List.getElem?_eq_some_iff.1 hu).1
  show (Zil _ _ _).den = _
  dsimp only [Zil, LT.den]
  rw [decide_eq_true (show (i : Int) < (x.Targets.length : Int) by omega), cond_true, Zag hu, Option.bind_some, Zag hv, Option.bind_some, Z16, Zaw hi (by omega)]
  cases decide (u = v) <;> rfl)
 refine Eq.trans r ?_
 refine Eq.trans (b := bif decide (x.Targets = y.Targets) then some (decide (x = y)) else some false) ?_ (by
  by_cases e : x.Targets = y.Targets
  ·rw [decide_eq_true e]; rfl
  ·rw [decide_eq_false e, decide_eq_false (fun h => e (by rw [h]))]; rfl)
 by_cases e : x.Targets = y.Targets
 ·rw [decide_eq_true e, cond_true, cond_true]
  refine Eq.trans (Zagr _) ?_
  show Option.bind (Zil _ _ _).den _ = _
  dsimp only [Zil, LT.den]
  rw [decide_eq_false (by omega)]
  simp only [cond_false, Z8h x.Ability y.Ability hx.1, Zpz, Zgp, Zf3, Zie, int_bne', Zg4, Option.bind_some, Zf2, Zef, Ze4]
  congr 1
  rw [decide_eq_decide]
  obtain ⟨a0, a1, a2, a3, a4, a5, a6, a7, a8⟩ := x
  obtain ⟨b0, b1, b2, b3, b4, b5, b6, b7, b8⟩ := y
  simp only at e
  subst e
  simp only [Z6.mk.injEq, true_and, and_true]
  try simp only [and_assoc, and_comm, and_left_comm]
 ·rw [decide_eq_false e]; rfl
theorem Z6h (x y : Z0) (hx : Zf0 x) : Zq0 x y = some (decide (x = y)) := by
 (unfold Zq0 LF.run; dsimp only [Zv5, LT.den])
 simp only [Zgi x.Library y.Library hx.1.1, Zgi x.Hand y.Hand hx.2.1.1, Zgi x.Graveyard y.Graveyard hx.2.2.1, Zz6, Zgp, Zf3, Zie, int_bne', Zg4, Option.bind_some, Zf2, Zef, Ze4]
 congr 1
 rw [decide_eq_decide]
 obtain ⟨a0, a1, a2, a3, a4, a5, a6, a7, a8⟩ := x
 obtain ⟨b0, b1, b2, b3, b4, b5, b6, b7, b8⟩ := y
 simp only [Z0.mk.injEq]
 try simp only [and_assoc, and_comm, and_left_comm]
theorem Z5l (x y : Zy) (hx : Zg6 x) : Zpw x y = some (decide (x = y)) := by
 (unfold Zpw LF.run; dsimp only [Zt5, LT.den])
 simp only [Z8h x.Ability y.Ability hx, Zpz, Zgp, Zf3, Zie, int_bne', Zg4, Option.bind_some, Zf2, Zef, Ze4]
 congr 1
 rw [decide_eq_decide]
 obtain ⟨a0, a1, a2, a3⟩ := x
 obtain ⟨b0, b1, b2, b3⟩ := y
 simp only [Zy.mk.injEq]
 try simp only [and_assoc, and_comm, and_left_comm]
theorem Zaed (x y : Zab) (hx : Zir x) : Zv9 x y = some (decide (x = y)) := by
 (unfold Zv9 LF.run; dsimp only [Zz0, LT.den])
 simp only [Zgi x.Objects y.Objects hx.1.1, Zaea x.Mods y.Mods hx.2.1, Zgp, Zf3, Zie, int_bne', Zg4, Option.bind_some, Zf2, Zef, Ze4]
 congr 1
 rw [decide_eq_decide]
 obtain ⟨a0, a1, a2, a3, a4, a5⟩ := x
 obtain ⟨b0, b1, b2, b3, b4, b5⟩ := y
 simp only [Zab.mk.injEq]
 try simp only [and_assoc, and_comm, and_left_comm]
theorem Zal2 (x y : Za) (hx : Zz x) : Z4t x y = some (decide (x.Players = y.Players ∧ x.Objects = y.Objects ∧ x.Stack = y.Stack ∧ x.Waiting = y.Waiting ∧ x.Conts = y.Conts)) := by
 (unfold Z4t LF.run; dsimp only [Z79, LT.den])
 refine (Zka (a := x.Players) (b := y.Players) (fun e => by rw [e.1]) fun hl0 => ?_)
 refine (Zka (a := x.Objects) (b := y.Objects) (fun e => by rw [e.2.1]) fun hl1 => ?_)
 refine (Zka (a := x.Stack) (b := y.Stack) (fun e => by rw [e.2.2.1]) fun hl2 => ?_)
 refine (Zka (a := x.Waiting) (b := y.Waiting) (fun e => by rw [e.2.2.2.1]) fun hl3 => ?_)
 refine (Zka (a := x.Conts) (b := y.Conts) (fun e => by rw [e.2.2.2.2]) fun hl4 => ?_)
 rw [Option.bind_some, Zbt]
 have l4 : Za4 Zc2.step (Zb2.L4 x y 0) = some (decide (x.Conts = y.Conts)) := by
  have hb : x.Conts.length * 80 ≤ 140737488351232 := hx.2.2.2.2.2.2.1.1
  have r := Zc0 (step := Zc2.step) (st := fun i : Nat => Zb2.L4 x y (i : Int)) (bad := false) x.Conts y.Conts hl4 (fun i u v hu hv hm => by
   have hi := (List.getElem?_eq_some_iff.1 hu).1
   show (Zlz _ _ _).den = _
   dsimp only [Zlz, LT.den]
   rw [decide_eq_true (show (i : Int) < (x.Conts.length : Int) by omega), cond_true, Zag hu, Option.bind_some, Zag hv, Option.bind_some, Zaed u v (hx.2.2.2.2.2.2.1.2 u hm), Option.bind_some, Zaw hi (by omega)]
   cases decide (u = v) <;> rfl)
  refine Eq.trans r ?_
  have he : Za4 Zc2.step (Zb2.L4 x y (x.Conts.length : Int)) = some true := Zbf (by
   show (Zlz _ _ _).den = _
   dsimp only [Zlz, LT.den]
   rw [decide_eq_false (by omega)]; rfl)
  rw [he]
  cases decide (x.Conts = y.Conts) <;> rfl
 have l3 : Za4 Zc2.step (Zb2.L3 x y 0) = some (decide (x.Waiting = y.Waiting ∧ x.Conts = y.Conts)) := by
  have hb : x.Waiting.length * 768 ≤ 140737488351232 := hx.2.2.2.2.2.1.1
  have r := Zc0 (step := Zc2.step) (st := fun i : Nat => Zb2.L3 x y (i : Int)) (bad := false) x.Waiting y.Waiting hl3 (fun i u v hu hv hm => by
   have hi := (List.getElem?_eq_some_iff.1 hu).1
   show (Zly _ _ _).den = _
   dsimp only [Zly, LT.den]
   rw [decide_eq_true (show (i : Int) < (x.Waiting.length : Int) by omega), cond_true, Zag hu, Option.bind_some, Zag hv, Option.bind_some, Z5l u v (hx.2.2.2.2.2.1.2 u hm), Option.bind_some, Zaw hi (by omega)]
   cases decide (u = v) <;> rfl)
  refine Eq.trans r ?_
  have he : Za4 Zc2.step (Zb2.L3 x y (x.Waiting.length : Int)) = some (decide (x.Conts = y.Conts)) := Eq.trans (Zdg (by
   show (Zly _ _ _).den = _
   dsimp only [Zly, LT.den]
   rw [decide_eq_false (by omega)]; rfl)) l4
  rw [he]
  exact Ze4 _ _
 have l2 : Za4 Zc2.step (Zb2.L2 x y 0) = some (decide (x.Stack = y.Stack ∧ x.Waiting = y.Waiting ∧ x.Conts = y.Conts)) := by
  have hb : x.Stack.length * 824 ≤ 140737488351232 := hx.2.2.2.2.1.1
  have r := Zc0 (step := Zc2.step) (st := fun i : Nat => Zb2.L2 x y (i : Int)) (bad := false) x.Stack y.Stack hl2 (fun i u v hu hv hm => by
   have hi := (List.getElem?_eq_some_iff.1 hu).1
   show (Zlx _ _ _).den = _
   dsimp only [Zlx, LT.den]
   rw [decide_eq_true (show (i : Int) < (x.Stack.length : Int) by omega), cond_true, Zag hu, Option.bind_some, Zag hv, Option.bind_some, Zaec u v (hx.2.2.2.2.1.2 u hm), Option.bind_some, Zaw hi (by omega)]
   cases decide (u = v) <;> rfl)
  refine Eq.trans r ?_
  have he : Za4 Zc2.step (Zb2.L2 x y (x.Stack.length : Int)) = some (decide (x.Waiting = y.Waiting ∧ x.Conts = y.Conts)) := Eq.trans (Zdg (by
   show (Zlx _ _ _).den = _
   dsimp only [Zlx, LT.den]
   rw [decide_eq_false (by omega)]; rfl)) l3
  rw [he]
  exact Ze4 _ _
 have l1 : Za4 Zc2.step (Zb2.L1 x y 0) = some (decide (x.Objects = y.Objects ∧ x.Stack = y.Stack ∧ x.Waiting = y.Waiting ∧ x.Conts = y.Conts)) := by
  have hb : x.Objects.length * 128 ≤ 140737488351232 := hx.2.1.1
  have r := Zc0 (step := Zc2.step) (st := fun i : Nat => Zb2.L1 x y (i : Int)) (bad := false) x.Objects y.Objects hl1 (fun i u v hu hv hm => by
   have hi := (List.getElem?_eq_some_iff.1 hu).1
   show (Zlw _ _ _).den = _
   dsimp only [Zlw, LT.den]
   rw [decide_eq_true (show (i : Int) < (x.Objects.length : Int) by omega), cond_true, Zag hu, Option.bind_some, Zag hv, Option.bind_some, Z15, Zaw hi (by omega)]
   cases decide (u = v) <;> rfl)
  refine Eq.trans r ?_
  have he : Za4 Zc2.step (Zb2.L1 x y (x.Objects.length : Int)) = some (decide (x.Stack = y.Stack ∧ x.Waiting = y.Waiting ∧ x.Conts = y.Conts)) := Eq.trans (Zdg (by
   show (Zlw _ _ _).den = _
   dsimp only [Zlw, LT.den]
   rw [decide_eq_false (by omega)]; rfl)) l2
  rw [he]
  exact Ze4 _ _
 have l0 : Za4 Zc2.step (Zb2.L0 x y 0) = some (decide (x.Players = y.Players ∧ x.Objects = y.Objects ∧ x.Stack = y.Stack ∧ x.Waiting = y.Waiting ∧ x.Conts = y.Conts)) := by
  have hb : x.Players.length * 152 ≤ 140737488351232 := hx.1.1
  have r := Zc0 (step := Zc2.step) (st := fun i : Nat => Zb2.L0 x y (i : Int)) (bad := false) x.Players y.Players hl0 (fun i u v hu hv hm => by
   have hi := (List.getElem?_eq_some_iff.1 hu).1
   show (Zlv _ _ _).den = _
   dsimp only [Zlv, LT.den]
   rw [decide_eq_true (show (i : Int) < (x.Players.length : Int) by omega), cond_true, Zag hu, Option.bind_some, Zag hv, Option.bind_some, Z6h u v (hx.1.2 u hm), Option.bind_some, Zaw hi (by omega)]
   cases decide (u = v) <;> rfl)
  refine Eq.trans r ?_
  have he : Za4 Zc2.step (Zb2.L0 x y (x.Players.length : Int)) = some (decide (x.Objects = y.Objects ∧ x.Stack = y.Stack ∧ x.Waiting = y.Waiting ∧ x.Conts = y.Conts)) := Eq.trans (Zdg (by
   show (Zlv _ _ _).den = _
   dsimp only [Zlv, LT.den]
   rw [decide_eq_false (by omega)]; rfl)) l1
  rw [he]
  exact Ze4 _ _
 exact l0
theorem Zani (x y : Za) (hx : Zz x) : Z9q x y = some (decide (x = y)) := by
 (unfold Z9q LF.run; dsimp only [Zac5, LT.den])
 simp only [Zal2 x y hx, Zgi x.Battlefield y.Battlefield hx.2.2.1.1, Zgi x.Exile y.Exile hx.2.2.2.1.1, Zgi x.Extra y.Extra hx.2.2.2.2.2.2.2.1, Zgp, Zf3, Zie, int_bne', Zg4, Option.bind_some, Zf2, Zef, Ze4]
 congr 1
 rw [decide_eq_decide]
 obtain ⟨a0, a1, a2, a3, a4, a5, a6, a7, a8, a9, a10, a11, a12, a13, a14, a15, a16, a17, a18⟩ := x
 obtain ⟨b0, b1, b2, b3, b4, b5, b6, b7, b8, b9, b10, b11, b12, b13, b14, b15, b16, b17, b18⟩ := y
 simp only [Za.mk.injEq]
 try simp only [and_assoc, and_comm, and_left_comm]
theorem Zafq (x y : Za0) (hx : Zif x) : Zyz x y = some (decide (x = y)) := by
 have hb : x.Options.length * 24 ≤ 140737488351232 := hx.1
 (unfold Zyz LF.run; dsimp only [Z12, LT.den])
 refine ((Zkp (int_bne' _ _) fun h1 => Zkp (int_bne' _ _) fun h2 => Zkp (int_bne' _ _) fun h3 => Zkp (int_bne' _ _) fun h4 => Zkp (int_bne' _ _) fun h5 => Zkp (int_bne' _ _) fun h6 => Zka (q := x.Options = y.Options) (a := x.Options) (b := y.Options) (fun e => by rw [e]) fun hl => ?_).trans ?_)
 ·rw [Option.bind_some, Zbt]
  have r := Zc0 (step := Zn2.step) (st := fun i : Nat => Zkg.L0 x y (i : Int)) (bad := false) x.Options y.Options hl (fun i u v hu hv hm => by
   have hi := (List.getElem?_eq_some_iff.1 hu).1
   show (Zi6 _ _ _).den = _
   dsimp only [Zi6, LT.den]
   rw [decide_eq_true (show (i : Int) < (x.Options.length : Int) by omega), cond_true, Zag hu, Option.bind_some, Zag hv, Option.bind_some, Z17, Zaw hi (by omega)]
   cases decide (u = v) <;> rfl)
  refine Eq.trans r ?_
  have he : Za4 Zn2.step (Zkg.L0 x y (x.Options.length : Int)) = some true := Zbf (by
   show (Zi6 _ _ _).den = _
   dsimp only [Zi6, LT.den]
   rw [decide_eq_false (by omega)]; rfl)
  rw [he]
  cases decide (x.Options = y.Options) <;> rfl
 ·congr 1
  rw [decide_eq_decide]
  obtain ⟨a0, a1, a2, a3, a4, a5, a6⟩ := x
  obtain ⟨b0, b1, b2, b3, b4, b5, b6⟩ := y
  simp only [Za0.mk.injEq]
abbrev Z53 (x : Zs) : Za := ⟨[], x.Objects, x.Battlefield, x.Exile, x.Stack, x.Waiting, x.Conts, x.Turn, x.Active, x.Step, false, x.Priority, x.Passes, x.NextId, 0, 0, x.Extra, x.Over, x.Winner⟩
theorem Zanj (x y : Zs) (hx : Zy7 x) : Z9r x y = some (decide (x = y)) := by
 have hb : x.Players.length * 120 ≤ 140737488351232 := hx.1.1
 have hp : Zz (Z53 x) := ⟨SzL.nil, hx.2.2.1, hx.2.2.2.1, hx.2.2.2.2.1, hx.2.2.2.2.2.1, hx.2.2.2.2.2.2.1, hx.2.2.2.2.2.2.2.1, hx.2.2.2.2.2.2.2.2.1⟩
 (unfold Z9r LF.run; dsimp only [Zac7, LT.den])
 rw [Zgi _ _ hx.2.1.1, Option.bind_some, Zafq _ _ hx.2.2.2.2.2.2.2.2.2, Option.bind_some, show Z09 x = some (Z53 x) from rfl, Option.bind_some, show Z09 y = some (Z53 y) from rfl, Option.bind_some, Zani _ _ hp, Option.bind_some]
 refine ((Zkp (int_bne' _ _) fun h1 => Zka (a := x.Players) (b := y.Players) (q := x.Hand = y.Hand ∧ x.Pending = y.Pending ∧ Z53 x = Z53 y ∧ x.Players = y.Players) (fun e => by rw [e.2.2.2]) fun hl => Zkp rfl fun h2 => Zkp rfl fun h3 => Zkp rfl fun h4 => ?_).trans ?_)
 ·rw [Option.bind_some, Zbt]
  have r := Zc0 (step := Zue.step) (st := fun i : Nat => Zpx.L0 x y (i : Int)) (bad := false) x.Players y.Players hl (fun i u v hu hv hm => by
   have hi := (List.getElem?_eq_some_iff.1 hu).1
   have hsu := (hx.1.2 u hm).1
   show (Znn _ _ _).den = _
   dsimp only [Znn, LT.den]
   rw [decide_eq_true (show (i : Int) < (x.Players.length : Int) by omega), cond_true, Zag hu, Option.bind_some, Zag hv, Option.bind_some, Zaw hi (by omega), Zgi _ _ hsu, Option.bind_some]
   refine (Zx2 (int_bne' _ _) (Zx2 (int_bne' _ _) (Zx2 (int_bne' _ _) (Zx2 (int_bne' _ _) (Zx2 (int_bne' _ _) (Zx2 (by rw [Zz6]) (Zx2 (by rw [Zf3]) (Zx2 (q := True) rfl rfl)))))))).trans ?_
   congr 2
   rw [decide_eq_decide]
   obtain ⟨a0, a1, a2, a3, a4, a5, a6, a7⟩ := u
   obtain ⟨b0, b1, b2, b3, b4, b5, b6, b7⟩ := v
   simp only [Zbz.mk.injEq, and_true])
  refine Eq.trans r ?_
  have he : Za4 Zue.step (Zpx.L0 x y (x.Players.length : Int)) = some true := Zbf (by
   show (Znn _ _ _).den = _
   dsimp only [Znn, LT.den]
   rw [decide_eq_false (by omega)]; rfl)
  rw [he]
  cases decide (x.Players = y.Players) <;> rfl
 ·congr 1
  rw [decide_eq_decide]
  obtain ⟨a0, a1, a2, a3, a4, a5, a6, a7, a8, a9, a10, a11, a12, a13, a14, a15, a16, a17, a18⟩ := x
  obtain ⟨b0, b1, b2, b3, b4, b5, b6, b7, b8, b9, b10, b11, b12, b13, b14, b15, b16, b17, b18⟩ := y
  simp only [Z53, Za.mk.injEq, Zs.mk.injEq, true_and]
  simp only [and_assoc, and_comm, and_left_comm]
theorem Zqf (x y : Zs) (hx : Zy7 x) : Z4o x y = some (decide (x = y)) := by
 (unfold Z4o LF.run; dsimp only [Z73, LT.den]; dsimp only [Zhz, LT.den])
 simp only [Zdj x.Hand y.Hand hx.2.1.1, Zj7 x.Objects y.Objects hx.2.2.1.1, Zdj x.Battlefield y.Battlefield hx.2.2.2.1.1, Zdj x.Exile y.Exile hx.2.2.2.2.1.1, Zdj x.Extra y.Extra hx.2.2.2.2.2.2.2.2.1.1, Zey x.Players y.Players hx.1.1 hx.1.2, Zez x.Stack y.Stack hx.2.2.2.2.2.1.1 hx.2.2.2.2.2.1.2, Zdn x.Waiting y.Waiting hx.2.2.2.2.2.2.1.1 hx.2.2.2.2.2.2.1.2, Ze0 x.Conts y.Conts hx.2.2.2.2.2.2.2.1.1 hx.2.2.2.2.2.2.2.1.2, Z5i x.Pending y.Pending hx.2.2.2.2.2.2.2.2.2, Zgp, Zf3, int_bne', Zg4, Option.bind_some, Zf2, Zef, Ze4]
 simp only [cond_false, Ze4]
 congr 1
 rw [decide_eq_decide]
 obtain ⟨a0, a1, a2, a3, a4, a5, a6, a7, a8, a9, a10, a11, a12, a13, a14, a15, a16, a17, a18⟩ := x
 obtain ⟨b0, b1, b2, b3, b4, b5, b6, b7, b8, b9, b10, b11, b12, b13, b14, b15, b16, b17, b18⟩ := y
 simp only [Zs.mk.injEq]
 simp only [and_assoc, and_comm, and_left_comm]
end Go.PW
