import Derived.Test.YtloamjgjcjandaaGreatQP
set_option linter.all false
set_option maxRecDepth 100000
namespace Go.PW
theorem Z5j (x : Z0) (h : Zf0 x) : Zkw x = some x := by
 (unfold Zkw LF.run; dsimp only [Zty, LT.den])
 rw [Zct _ h.1.1, Option.bind_some, Zct _ h.2.1.1, Option.bind_some, Zct _ h.2.2.1]; rfl
theorem Zis (a : List Int) (h : a.length * 8 ≤ 140737488351232) : Zqv a = some a := by
 (unfold Zqv LF.run; dsimp only [Z0z, LT.den])
 rw [Zcz h (by decide)]; rfl
theorem Zqk (a : Zk) (h : Za1 a) : Zju a = some a := by
 have key : ∀ Z, Za4 Zik.step (.L0 a Z (a.Effects.length : Int) ((0 : Nat) : Int)) = some a := fun Z => by
  have hl : a.Effects.length * 560 ≤ 140737488351232 := h.2.2.2.2.1.1
  have r := Zkz (step := Zik.step) (st := fun i (_ : Unit) => .L0 a Z (a.Effects.length : Int) (i : Int)) a.Effects.length (fun _ => ()) (fun i hi => by
   have hx := List.getElem?_eq_getElem hi
   have hp := h.2.2.2.2.1.2 _ (List.getElem_mem hi)
   generalize a.Effects[i] = x at hx hp
   obtain ⟨x0, x1, x2, x3, x4, x5, x6, x7, x8⟩ := x
   show (Zgy _ _ _ _).den = _
   dsimp only [Zgy, LT.den]
   rw [decide_eq_true (show (i : Int) < (a.Effects.length : Int) by omega), cond_true, Zag hx, Option.bind_some]
   try dsimp only
   rw [Zfn _ hp.2.2.2.2.1, Option.bind_some, Zol hx, Option.bind_some, Zaw hi (by omega)])
  refine Eq.trans r (Zbf ?_)
  show (Zgy _ _ _ _).den = _
  dsimp only [Zgy, LT.den]
  rw [decide_eq_false (show ¬ (a.Effects.length : Int) < (a.Effects.length : Int) by omega)]
  rfl
 (unfold Zju LF.run; dsimp only [Zsb, LT.den])
 rw [Zfn _ h.2.1.1, Option.bind_some, Zl7 _ h.2.2.2.1.1, Option.bind_some, Zj4 _ h.2.2.2.2.1.1, Option.bind_some, Option.bind_some, Zbt]
 exact key _
theorem Z0e (a : Zk) (h : Za1 a) : Zrf a = some a := by
 have key : ∀ Z, Za4 Zn1.step (.L0 a Z (⟨a.Kind, a.Filter, a.Mods, a.Price, a.Slow, a.Trigger, a.May, a.Specs, a.Effects.take 0, a.Replace⟩ : Zk) ((0 : Nat) : Int)) = some a := fun Z => by
  have hl : a.Effects.length * 560 ≤ 140737488351232 := h.2.2.2.2.1.1
  have r := Zkz (step := Zn1.step) (st := fun i (v : Zk) => .L0 a Z v (i : Int)) a.Effects.length (fun i => (⟨a.Kind, a.Filter, a.Mods, a.Price, a.Slow, a.Trigger, a.May, a.Specs, a.Effects.take i, a.Replace⟩ : Zk)) (fun i hi => by
   have hx := List.getElem?_eq_getElem hi
   have hp := h.2.2.2.2.1.2 _ (List.getElem_mem hi)
   generalize a.Effects[i] = x at hx hp
   obtain ⟨x0, x1, x2, x3, x4, x5, x6, x7, x8⟩ := x
   show (Zi4 _ _ _ _).den = _
   dsimp only [Zi4, LT.den]
   rw [decide_eq_true (show (i : Int) < (a.Effects.length : Int) by omega), cond_true, Zag hx, Option.bind_some]
   try dsimp only
   rw [Zcz hp.2.2.2.2.1 (by decide), Option.bind_some, Zq6 hx hl (by decide), Option.bind_some, Zaw hi (by omega)])
  refine Eq.trans r (Zbf ?_)
  show (Zi4 _ _ _ _).den = _
  dsimp only [Zi4, LT.den]
  rw [decide_eq_false (show ¬ (a.Effects.length : Int) < (a.Effects.length : Int) by omega), List.take_length]
  rfl
 (unfold Zrf LF.run; dsimp only [Z10, LT.den])
 rw [Zcz h.2.1.1 (by decide), Option.bind_some, Zcz h.2.2.2.1.1 (by decide), Option.bind_some, Option.bind_some, Zbt]
 exact key _
theorem Zalx (s : Za) (h : Zz s) : Zxh s = some s := by
 have l3 : ∀ Z, Za4 Zd4.step (.L3 s Z (s.Conts.length : Int) ((0 : Nat) : Int)) = some s := fun Z => by
  have hl : s.Conts.length * 80 ≤ 140737488351232 := h.2.2.2.2.2.2.1.1
  have r := Zkz (step := Zd4.step) (st := fun (i : Nat) (_ : Unit) => .L3 s Z (s.Conts.length : Int) (i : Int)) s.Conts.length (fun _ => ()) (fun i hi => by
   have hx := List.getElem?_eq_getElem hi
   have hp := h.2.2.2.2.2.2.1.2 _ (List.getElem_mem hi)
   generalize s.Conts[i] = x at hx hp
   obtain ⟨x0, x1, x2, x3, x4, x5⟩ := x
   show (Zls _ _ _ _).den = _
   dsimp only [Zls, LT.den]
   rw [decide_eq_true (show (i : Int) < (s.Conts.length : Int) by omega), cond_true, Zag hx, Option.bind_some]
   try dsimp only
   rw [Zct _ hp.1.1, Option.bind_some, Zol hx, Option.bind_some, Zag hx, Option.bind_some]
   try dsimp only
   rw [Zfn _ hp.2.1, Option.bind_some, Zol hx, Option.bind_some, Zaw hi (by omega)])
  refine Eq.trans r ?_
  have e : Zd4.step (.L3 s Z (s.Conts.length : Int) (s.Conts.length : Int)) = some (.inr s) := by
   show (Zls _ _ _ _).den = _
   dsimp only [Zls, LT.den]
   rw [decide_eq_false (show ¬ (s.Conts.length : Int) < (s.Conts.length : Int) by omega), cond_false]
   rw [Zct _ h.2.2.2.2.2.2.2.1]
   rfl
  exact Zbf e
 have l2 : ∀ Z, Za4 Zd4.step (.L2 s Z (s.Waiting.length : Int) ((0 : Nat) : Int)) = some s := fun Z => by
  have hl : s.Waiting.length * 768 ≤ 140737488351232 := h.2.2.2.2.2.1.1
  have r := Zkz (step := Zd4.step) (st := fun (i : Nat) (_ : Unit) => .L2 s Z (s.Waiting.length : Int) (i : Int)) s.Waiting.length (fun _ => ()) (fun i hi => by
   have hx := List.getElem?_eq_getElem hi
   have hp := h.2.2.2.2.2.1.2 _ (List.getElem_mem hi)
   generalize s.Waiting[i] = x at hx hp
   obtain ⟨x0, x1, x2, x3⟩ := x
   show (Zlr _ _ _ _).den = _
   dsimp only [Zlr, LT.den]
   rw [decide_eq_true (show (i : Int) < (s.Waiting.length : Int) by omega), cond_true, Zag hx, Option.bind_some]
   try dsimp only
   rw [Zqk _ hp, Option.bind_some, Zol hx, Option.bind_some, Zaw hi (by omega)])
  refine Eq.trans r ?_
  have e : Zd4.step (.L2 s Z (s.Waiting.length : Int) (s.Waiting.length : Int)) = some (.inl (.L3 s Z (s.Conts.length : Int) ((0 : Nat) : Int))) := by
   show (Zlr _ _ _ _).den = _
   dsimp only [Zlr, LT.den]
   rw [decide_eq_false (show ¬ (s.Waiting.length : Int) < (s.Waiting.length : Int) by omega), cond_false]
   rw [Zl8 _ h.2.2.2.2.2.2.1.1]
   rfl
  exact (Zdg e).trans (l3 Z)
 have l1 : ∀ Z, Za4 Zd4.step (.L1 s Z (s.Stack.length : Int) ((0 : Nat) : Int)) = some s := fun Z => by
  have hl : s.Stack.length * 824 ≤ 140737488351232 := h.2.2.2.2.1.1
  have r := Zkz (step := Zd4.step) (st := fun (i : Nat) (_ : Unit) => .L1 s Z (s.Stack.length : Int) (i : Int)) s.Stack.length (fun _ => ()) (fun i hi => by
   have hx := List.getElem?_eq_getElem hi
   have hp := h.2.2.2.2.1.2 _ (List.getElem_mem hi)
   generalize s.Stack[i] = x at hx hp
   obtain ⟨x0, x1, x2, x3, x4, x5, x6, x7, x8⟩ := x
   show (Zlq _ _ _ _).den = _
   dsimp only [Zlq, LT.den]
   rw [decide_eq_true (show (i : Int) < (s.Stack.length : Int) by omega), cond_true, Zag hx, Option.bind_some]
   try dsimp only
   rw [Zqk _ hp.1, Option.bind_some, Zol hx, Option.bind_some, Zag hx, Option.bind_some]
   try dsimp only
   rw [Zj5 _ hp.2.1, Option.bind_some, Zol hx, Option.bind_some, Zaw hi (by omega)])
  refine Eq.trans r ?_
  have e : Zd4.step (.L1 s Z (s.Stack.length : Int) (s.Stack.length : Int)) = some (.inl (.L2 s Z (s.Waiting.length : Int) ((0 : Nat) : Int))) := by
   show (Zlq _ _ _ _).den = _
   dsimp only [Zlq, LT.den]
   rw [decide_eq_false (show ¬ (s.Stack.length : Int) < (s.Stack.length : Int) by omega), cond_false]
   rw [Zjc _ h.2.2.2.2.2.1.1]
   rfl
  exact (Zdg e).trans (l2 Z)
 have l0 : ∀ Z, Za4 Zd4.step (.L0 s Z (s.Players.length : Int) ((0 : Nat) : Int)) = some s := fun Z => by
  have hl : s.Players.length * 152 ≤ 140737488351232 := h.1.1
  have r := Zkz (step := Zd4.step) (st := fun (i : Nat) (_ : Unit) => .L0 s Z (s.Players.length : Int) (i : Int)) s.Players.length (fun _ => ()) (fun i hi => by
   have hx := List.getElem?_eq_getElem hi
   have hp := h.1.2 _ (List.getElem_mem hi)
   generalize s.Players[i] = x at hx hp
   obtain ⟨x0, x1, x2, x3, x4, x5, x6, x7, x8⟩ := x
   show (Zlp _ _ _ _).den = _
   dsimp only [Zlp, LT.den]
   rw [decide_eq_true (show (i : Int) < (s.Players.length : Int) by omega), cond_true, Zag hx, Option.bind_some]
   try dsimp only
   rw [Z5j _ hp, Option.bind_some, Zol hx, Option.bind_some, Zaw hi (by omega)])
  refine Eq.trans r ?_
  have e : Zd4.step (.L0 s Z (s.Players.length : Int) (s.Players.length : Int)) = some (.inl (.L1 s Z (s.Stack.length : Int) ((0 : Nat) : Int))) := by
   show (Zlp _ _ _ _).den = _
   dsimp only [Zlp, LT.den]
   rw [decide_eq_false (show ¬ (s.Players.length : Int) < (s.Players.length : Int) by omega), cond_false]
   rw [Zj3 _ h.2.1.1, Option.bind_some, Zct _ h.2.2.1.1, Option.bind_some, Zct _ h.2.2.2.1.1, Option.bind_some, Zl6 _ h.2.2.2.2.1.1]
   rfl
  exact (Zdg e).trans (l1 Z)
 (unfold Zxh LF.run; dsimp only [Z70, LT.den])
 rw [Zj2 _ h.1.1, Option.bind_some, Option.bind_some, Zbt]
 exact l0 _
theorem Zanf (s : Za) (h : Zz s) : Z08 s = some s := by
 have l3 : ∀ Z, Za4 Zew.step (.L3 s Z (⟨s.Players, s.Objects, s.Battlefield, s.Exile, s.Stack, s.Waiting, s.Conts.take 0, s.Turn, s.Active, s.Step, s.Begun, s.Priority, s.Passes, s.NextId, s.NextStamp, s.Seed, s.Extra, s.Over, s.Winner⟩ : Za) ((0 : Nat) : Int)) = some s := fun Z => by
  have hl : s.Conts.length * 80 ≤ 140737488351232 := h.2.2.2.2.2.2.1.1
  have r := Zkz (step := Zew.step) (st := fun (i : Nat) (v : Za) => .L3 s Z v (i : Int)) s.Conts.length (fun i => (⟨s.Players, s.Objects, s.Battlefield, s.Exile, s.Stack, s.Waiting, s.Conts.take i, s.Turn, s.Active, s.Step, s.Begun, s.Priority, s.Passes, s.NextId, s.NextStamp, s.Seed, s.Extra, s.Over, s.Winner⟩ : Za)) (fun i hi => by
   have hx := List.getElem?_eq_getElem hi
   have hp := h.2.2.2.2.2.2.1.2 _ (List.getElem_mem hi)
   generalize s.Conts[i] = x at hx hp
   obtain ⟨x0, x1, x2, x3, x4, x5⟩ := x
   show (Znm _ _ _ _).den = _
   dsimp only [Znm, LT.den]
   rw [decide_eq_true (show (i : Int) < (s.Conts.length : Int) by omega), cond_true, Zag hx, Option.bind_some]
   try dsimp only
   rw [Zis _ hp.1.1, Option.bind_some, Zcz hp.2.1 (by decide), Option.bind_some, Zq6 hx hl (by decide), Option.bind_some, Zaw hi (by omega)])
  refine Eq.trans r ?_
  have e : Zew.step (.L3 s Z (⟨s.Players, s.Objects, s.Battlefield, s.Exile, s.Stack, s.Waiting, s.Conts.take s.Conts.length, s.Turn, s.Active, s.Step, s.Begun, s.Priority, s.Passes, s.NextId, s.NextStamp, s.Seed, s.Extra, s.Over, s.Winner⟩ : Za) (s.Conts.length : Int)) = some (.inr s) := by
   show (Znm _ _ _ _).den = _
   dsimp only [Znm, LT.den]
   rw [decide_eq_false (show ¬ (s.Conts.length : Int) < (s.Conts.length : Int) by omega), cond_false, List.take_length]
   rw [Zis _ h.2.2.2.2.2.2.2.1]
   rfl
  exact Zbf e
 have l2 : ∀ Z, Za4 Zew.step (.L2 s Z (⟨s.Players, s.Objects, s.Battlefield, s.Exile, s.Stack, s.Waiting.take 0, s.Conts, s.Turn, s.Active, s.Step, s.Begun, s.Priority, s.Passes, s.NextId, s.NextStamp, s.Seed, s.Extra, s.Over, s.Winner⟩ : Za) ((0 : Nat) : Int)) = some s := fun Z => by
  have hl : s.Waiting.length * 768 ≤ 140737488351232 := h.2.2.2.2.2.1.1
  have r := Zkz (step := Zew.step) (st := fun (i : Nat) (v : Za) => .L2 s Z v (i : Int)) s.Waiting.length (fun i => (⟨s.Players, s.Objects, s.Battlefield, s.Exile, s.Stack, s.Waiting.take i, s.Conts, s.Turn, s.Active, s.Step, s.Begun, s.Priority, s.Passes, s.NextId, s.NextStamp, s.Seed, s.Extra, s.Over, s.Winner⟩ : Za)) (fun i hi => by
   have hx := List.getElem?_eq_getElem hi
   have hp := h.2.2.2.2.2.1.2 _ (List.getElem_mem hi)
   generalize s.Waiting[i] = x at hx hp
   obtain ⟨x0, x1, x2, x3⟩ := x
   show (Znl _ _ _ _).den = _
   dsimp only [Znl, LT.den]
   rw [decide_eq_true (show (i : Int) < (s.Waiting.length : Int) by omega), cond_true, Zag hx, Option.bind_some]
   try dsimp only
   rw [Z0e _ hp, Option.bind_some, Zq6 hx hl (by decide), Option.bind_some, Zaw hi (by omega)])
  refine Eq.trans r ?_
  have e : Zew.step (.L2 s Z (⟨s.Players, s.Objects, s.Battlefield, s.Exile, s.Stack, s.Waiting.take s.Waiting.length, s.Conts, s.Turn, s.Active, s.Step, s.Begun, s.Priority, s.Passes, s.NextId, s.NextStamp, s.Seed, s.Extra, s.Over, s.Winner⟩ : Za) (s.Waiting.length : Int)) = some (.inl (.L3 s Z (⟨s.Players, s.Objects, s.Battlefield, s.Exile, s.Stack, s.Waiting, s.Conts.take 0, s.Turn, s.Active, s.Step, s.Begun, s.Priority, s.Passes, s.NextId, s.NextStamp, s.Seed, s.Extra, s.Over, s.Winner⟩ : Za) ((0 : Nat) : Int))) := by
   show (Znl _ _ _ _).den = _
   dsimp only [Znl, LT.den]
   rw [decide_eq_false (show ¬ (s.Waiting.length : Int) < (s.Waiting.length : Int) by omega), cond_false, List.take_length]
   rfl
  exact (Zdg e).trans (l3 Z)
 have l1 : ∀ Z, Za4 Zew.step (.L1 s Z (⟨s.Players, s.Objects, s.Battlefield, s.Exile, s.Stack.take 0, s.Waiting, s.Conts, s.Turn, s.Active, s.Step, s.Begun, s.Priority, s.Passes, s.NextId, s.NextStamp, s.Seed, s.Extra, s.Over, s.Winner⟩ : Za) ((0 : Nat) : Int)) = some s := fun Z => by
  have hl : s.Stack.length * 824 ≤ 140737488351232 := h.2.2.2.2.1.1
  have r := Zkz (step := Zew.step) (st := fun (i : Nat) (v : Za) => .L1 s Z v (i : Int)) s.Stack.length (fun i => (⟨s.Players, s.Objects, s.Battlefield, s.Exile, s.Stack.take i, s.Waiting, s.Conts, s.Turn, s.Active, s.Step, s.Begun, s.Priority, s.Passes, s.NextId, s.NextStamp, s.Seed, s.Extra, s.Over, s.Winner⟩ : Za)) (fun i hi => by
   have hx := List.getElem?_eq_getElem hi
   have hp := h.2.2.2.2.1.2 _ (List.getElem_mem hi)
   generalize s.Stack[i] = x at hx hp
   obtain ⟨x0, x1, x2, x3, x4, x5, x6, x7, x8⟩ := x
   show (Znk _ _ _ _).den = _
   dsimp only [Znk, LT.den]
   rw [decide_eq_true (show (i : Int) < (s.Stack.length : Int) by omega), cond_true, Zag hx, Option.bind_some]
   try dsimp only
   rw [Z0e _ hp.1, Option.bind_some, Zcz hp.2.1 (by decide), Option.bind_some, Zq6 hx hl (by decide), Option.bind_some, Zaw hi (by omega)])
  refine Eq.trans r ?_
  have e : Zew.step (.L1 s Z (⟨s.Players, s.Objects, s.Battlefield, s.Exile, s.Stack.take s.Stack.length, s.Waiting, s.Conts, s.Turn, s.Active, s.Step, s.Begun, s.Priority, s.Passes, s.NextId, s.NextStamp, s.Seed, s.Extra, s.Over, s.Winner⟩ : Za) (s.Stack.length : Int)) = some (.inl (.L2 s Z (⟨s.Players, s.Objects, s.Battlefield, s.Exile, s.Stack, s.Waiting.take 0, s.Conts, s.Turn, s.Active, s.Step, s.Begun, s.Priority, s.Passes, s.NextId, s.NextStamp, s.Seed, s.Extra, s.Over, s.Winner⟩ : Za) ((0 : Nat) : Int))) := by
   show (Znk _ _ _ _).den = _
   dsimp only [Znk, LT.den]
   rw [decide_eq_false (show ¬ (s.Stack.length : Int) < (s.Stack.length : Int) by omega), cond_false, List.take_length]
   rfl
  exact (Zdg e).trans (l2 Z)
 have l0 : ∀ Z, Za4 Zew.step (.L0 s Z (⟨s.Players.take 0, s.Objects, s.Battlefield, s.Exile, s.Stack, s.Waiting, s.Conts, s.Turn, s.Active, s.Step, s.Begun, s.Priority, s.Passes, s.NextId, s.NextStamp, s.Seed, s.Extra, s.Over, s.Winner⟩ : Za) ((0 : Nat) : Int)) = some s := fun Z => by
  have hl : s.Players.length * 152 ≤ 140737488351232 := h.1.1
  have r := Zkz (step := Zew.step) (st := fun (i : Nat) (v : Za) => .L0 s Z v (i : Int)) s.Players.length (fun i => (⟨s.Players.take i, s.Objects, s.Battlefield, s.Exile, s.Stack, s.Waiting, s.Conts, s.Turn, s.Active, s.Step, s.Begun, s.Priority, s.Passes, s.NextId, s.NextStamp, s.Seed, s.Extra, s.Over, s.Winner⟩ : Za)) (fun i hi => by
   have hx := List.getElem?_eq_getElem hi
   have hp := h.1.2 _ (List.getElem_mem hi)
   generalize s.Players[i] = x at hx hp
   obtain ⟨x0, x1, x2, x3, x4, x5, x6, x7, x8⟩ := x
   show (Znj _ _ _ _).den = _
   dsimp only [Znj, LT.den]
   rw [decide_eq_true (show (i : Int) < (s.Players.length : Int) by omega), cond_true, Zag hx, Option.bind_some]
   try dsimp only
   rw [Zis _ hp.1.1, Option.bind_some, Zis _ hp.2.1.1, Option.bind_some, Zis _ hp.2.2.1, Option.bind_some, Zq6 hx hl (by decide), Option.bind_some, Zaw hi (by omega)])
  refine Eq.trans r ?_
  have e : Zew.step (.L0 s Z (⟨s.Players.take s.Players.length, s.Objects, s.Battlefield, s.Exile, s.Stack, s.Waiting, s.Conts, s.Turn, s.Active, s.Step, s.Begun, s.Priority, s.Passes, s.NextId, s.NextStamp, s.Seed, s.Extra, s.Over, s.Winner⟩ : Za) (s.Players.length : Int)) = some (.inl (.L1 s Z (⟨s.Players, s.Objects, s.Battlefield, s.Exile, s.Stack.take 0, s.Waiting, s.Conts, s.Turn, s.Active, s.Step, s.Begun, s.Priority, s.Passes, s.NextId, s.NextStamp, s.Seed, s.Extra, s.Over, s.Winner⟩ : Za) ((0 : Nat) : Int))) := by
   show (Znj _ _ _ _).den = _
   dsimp only [Znj, LT.den]
   rw [decide_eq_false (show ¬ (s.Players.length : Int) < (s.Players.length : Int) by omega), cond_false, List.take_length]
   rw [Zcz h.2.1.1 (by decide), Option.bind_some, Zis _ h.2.2.1.1, Option.bind_some, Zis _ h.2.2.2.1.1]
   rfl
  exact (Zdg e).trans (l1 Z)
 (unfold Z08 LF.run; dsimp only [Zac0, LT.den])
 rw [Option.bind_some, Zbt]
 exact l0 _
end Go.PW
