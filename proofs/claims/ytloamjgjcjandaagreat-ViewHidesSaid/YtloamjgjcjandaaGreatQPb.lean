import Derived.Test.YtloamjgjcjandaaGreatQP
set_option linter.all false
set_option maxRecDepth 100000
namespace Go.PW
theorem Z57 (x : Zv) (h : Zf0 x) : Zlb x = some x := by
 (unfold Zlb LF.run; dsimp only [Zur, LT.den])
 rw [Zcs _ h.1.1, Option.bind_some, Zcs _ h.2.1.1, Option.bind_some, Zcs _ h.2.2.1]; rfl
theorem Zh7 (a : List Int) (h : a.length * 8 ≤ 140737488351232) : Zrj a = some a := by
 (unfold Zrj LF.run; dsimp only [Z1z, LT.den])
 rw [Zc9 h (by decide)]; rfl
theorem Zq8 (a : Zl) (h : Za0 a) : Zj6 a = some a := by
 have key : ∀ Z, Zaw Zit.step (.L0 a Z (a.Effects.length : Int) ((0 : Nat) : Int)) = some a := fun Z => by
  have hl : a.Effects.length * 560 ≤ 140737488351232 := h.2.2.2.2.1.1
  have r := Zop (step := Zit.step) (st := fun i (_ : Unit) => .L0 a Z (a.Effects.length : Int) (i : Int)) a.Effects.length (fun _ => ()) (fun i hi => by
   have hx := List.getElem?_eq_getElem hi
   have hp := h.2.2.2.2.1.2 _ (List.getElem_mem hi)
   generalize a.Effects[i] = x at hx hp
   obtain ⟨x0, x1, x2, x3, x4, x5, x6, x7, x8⟩ := x
   show (Zg2 _ _ _ _).den = _
   dsimp only [Zg2, LT.den]
   rw [decide_eq_true (show (i : Int) < (a.Effects.length : Int) by omega), cond_true, Z8 hx, Option.bind_some]
   try dsimp only
   rw [Zfn _ hp.2.2.2.2.1, Option.bind_some, Zpa hx, Option.bind_some, Zat hi (by omega)])
  refine Eq.trans r (Za7 ?_)
  show (Zg2 _ _ _ _).den = _
  dsimp only [Zg2, LT.den]
  rw [decide_eq_false (show ¬ (a.Effects.length : Int) < (a.Effects.length : Int) by omega)]
  rfl
 (unfold Zj6 LF.run; dsimp only [Zs3, LT.den])
 rw [Zfn _ h.2.1.1, Option.bind_some, Zmp _ h.2.2.2.1.1, Option.bind_some, Zkg _ h.2.2.2.2.1.1, Option.bind_some, Option.bind_some, Zbb]
 exact key _
theorem Z1a (a : Zl) (h : Za0 a) : Zr4 a = some a := by
 have key : ∀ Z, Zaw Zon.step (.L0 a Z (⟨a.Kind, a.Filter, a.Mods, a.Price, a.Slow, a.Trigger, a.May, a.Specs, a.Effects.take 0, a.Replace⟩ : Zl) ((0 : Nat) : Int)) = some a := fun Z => by
  have hl : a.Effects.length * 560 ≤ 140737488351232 := h.2.2.2.2.1.1
  have r := Zop (step := Zon.step) (st := fun i (v : Zl) => .L0 a Z v (i : Int)) a.Effects.length (fun i => (⟨a.Kind, a.Filter, a.Mods, a.Price, a.Slow, a.Trigger, a.May, a.Specs, a.Effects.take i, a.Replace⟩ : Zl)) (fun i hi => by
   have hx := List.getElem?_eq_getElem hi
   have hp := h.2.2.2.2.1.2 _ (List.getElem_mem hi)
   generalize a.Effects[i] = x at hx hp
   obtain ⟨x0, x1, x2, x3, x4, x5, x6, x7, x8⟩ := x
   show (Zjf _ _ _ _).den = _
   dsimp only [Zjf, LT.den]
   rw [decide_eq_true (show (i : Int) < (a.Effects.length : Int) by omega), cond_true, Z8 hx, Option.bind_some]
   try dsimp only
   rw [Zc9 hp.2.2.2.2.1 (by decide), Option.bind_some, Zrt hx hl (by decide), Option.bind_some, Zat hi (by omega)])
  refine Eq.trans r (Za7 ?_)
  show (Zjf _ _ _ _).den = _
  dsimp only [Zjf, LT.den]
  rw [decide_eq_false (show ¬ (a.Effects.length : Int) < (a.Effects.length : Int) by omega), List.take_length]
  rfl
 (unfold Zr4 LF.run; dsimp only [Z2t, LT.den])
 rw [Zc9 h.2.1.1 (by decide), Option.bind_some, Zc9 h.2.2.2.1.1 (by decide), Option.bind_some, Option.bind_some, Zbb]
 exact key _
theorem Zamn (s : Za) (h : Zw s) : Zyc s = some s := by
 have l3 : ∀ Z, Zaw Zd5.step (.L3 s Z (s.Conts.length : Int) ((0 : Nat) : Int)) = some s := fun Z => by
  have hl : s.Conts.length * 80 ≤ 140737488351232 := h.2.2.2.2.2.2.1.1
  have r := Zop (step := Zd5.step) (st := fun (i : Nat) (_ : Unit) => .L3 s Z (s.Conts.length : Int) (i : Int)) s.Conts.length (fun _ => ()) (fun i hi => by
   have hx := List.getElem?_eq_getElem hi
   have hp := h.2.2.2.2.2.2.1.2 _ (List.getElem_mem hi)
   generalize s.Conts[i] = x at hx hp
   obtain ⟨x0, x1, x2, x3, x4, x5⟩ := x
   show (Zma _ _ _ _).den = _
   dsimp only [Zma, LT.den]
   rw [decide_eq_true (show (i : Int) < (s.Conts.length : Int) by omega), cond_true, Z8 hx, Option.bind_some]
   try dsimp only
   rw [Zcs _ hp.1.1, Option.bind_some, Zpa hx, Option.bind_some, Z8 hx, Option.bind_some]
   try dsimp only
   rw [Zfn _ hp.2.1, Option.bind_some, Zpa hx, Option.bind_some, Zat hi (by omega)])
  refine Eq.trans r ?_
  have e : Zd5.step (.L3 s Z (s.Conts.length : Int) (s.Conts.length : Int)) = some (.inr s) := by
   show (Zma _ _ _ _).den = _
   dsimp only [Zma, LT.den]
   rw [decide_eq_false (show ¬ (s.Conts.length : Int) < (s.Conts.length : Int) by omega), cond_false]
   rw [Zcs _ h.2.2.2.2.2.2.2.1]
   rfl
  exact Za7 e
 have l2 : ∀ Z, Zaw Zd5.step (.L2 s Z (s.Waiting.length : Int) ((0 : Nat) : Int)) = some s := fun Z => by
  have hl : s.Waiting.length * 768 ≤ 140737488351232 := h.2.2.2.2.2.1.1
  have r := Zop (step := Zd5.step) (st := fun (i : Nat) (_ : Unit) => .L2 s Z (s.Waiting.length : Int) (i : Int)) s.Waiting.length (fun _ => ()) (fun i hi => by
   have hx := List.getElem?_eq_getElem hi
   have hp := h.2.2.2.2.2.1.2 _ (List.getElem_mem hi)
   generalize s.Waiting[i] = x at hx hp
   obtain ⟨x0, x1, x2, x3⟩ := x
   show (Zl9 _ _ _ _).den = _
   dsimp only [Zl9, LT.den]
   rw [decide_eq_true (show (i : Int) < (s.Waiting.length : Int) by omega), cond_true, Z8 hx, Option.bind_some]
   try dsimp only
   rw [Zq8 _ hp, Option.bind_some, Zpa hx, Option.bind_some, Zat hi (by omega)])
  refine Eq.trans r ?_
  have e : Zd5.step (.L2 s Z (s.Waiting.length : Int) (s.Waiting.length : Int)) = some (.inl (.L3 s Z (s.Conts.length : Int) ((0 : Nat) : Int))) := by
   show (Zl9 _ _ _ _).den = _
   dsimp only [Zl9, LT.den]
   rw [decide_eq_false (show ¬ (s.Waiting.length : Int) < (s.Waiting.length : Int) by omega), cond_false]
   rw [Zmq _ h.2.2.2.2.2.2.1.1]
   rfl
  exact (Zcw e).trans (l3 Z)
 have l1 : ∀ Z, Zaw Zd5.step (.L1 s Z (s.Stack.length : Int) ((0 : Nat) : Int)) = some s := fun Z => by
  have hl : s.Stack.length * 824 ≤ 140737488351232 := h.2.2.2.2.1.1
  have r := Zop (step := Zd5.step) (st := fun (i : Nat) (_ : Unit) => .L1 s Z (s.Stack.length : Int) (i : Int)) s.Stack.length (fun _ => ()) (fun i hi => by
   have hx := List.getElem?_eq_getElem hi
   have hp := h.2.2.2.2.1.2 _ (List.getElem_mem hi)
   generalize s.Stack[i] = x at hx hp
   obtain ⟨x0, x1, x2, x3, x4, x5, x6, x7, x8⟩ := x
   show (Zl8 _ _ _ _).den = _
   dsimp only [Zl8, LT.den]
   rw [decide_eq_true (show (i : Int) < (s.Stack.length : Int) by omega), cond_true, Z8 hx, Option.bind_some]
   try dsimp only
   rw [Zq8 _ hp.1, Option.bind_some, Zpa hx, Option.bind_some, Z8 hx, Option.bind_some]
   try dsimp only
   rw [Zkh _ hp.2.1, Option.bind_some, Zpa hx, Option.bind_some, Zat hi (by omega)])
  refine Eq.trans r ?_
  have e : Zd5.step (.L1 s Z (s.Stack.length : Int) (s.Stack.length : Int)) = some (.inl (.L2 s Z (s.Waiting.length : Int) ((0 : Nat) : Int))) := by
   show (Zl8 _ _ _ _).den = _
   dsimp only [Zl8, LT.den]
   rw [decide_eq_false (show ¬ (s.Stack.length : Int) < (s.Stack.length : Int) by omega), cond_false]
   rw [Zjm _ h.2.2.2.2.2.1.1]
   rfl
  exact (Zcw e).trans (l2 Z)
 have l0 : ∀ Z, Zaw Zd5.step (.L0 s Z (s.Players.length : Int) ((0 : Nat) : Int)) = some s := fun Z => by
  have hl : s.Players.length * 152 ≤ 140737488351232 := h.1.1
  have r := Zop (step := Zd5.step) (st := fun (i : Nat) (_ : Unit) => .L0 s Z (s.Players.length : Int) (i : Int)) s.Players.length (fun _ => ()) (fun i hi => by
   have hx := List.getElem?_eq_getElem hi
   have hp := h.1.2 _ (List.getElem_mem hi)
   generalize s.Players[i] = x at hx hp
   obtain ⟨x0, x1, x2, x3, x4, x5, x6, x7, x8⟩ := x
   show (Zl7 _ _ _ _).den = _
   dsimp only [Zl7, LT.den]
   rw [decide_eq_true (show (i : Int) < (s.Players.length : Int) by omega), cond_true, Z8 hx, Option.bind_some]
   try dsimp only
   rw [Z57 _ hp, Option.bind_some, Zpa hx, Option.bind_some, Zat hi (by omega)])
  refine Eq.trans r ?_
  have e : Zd5.step (.L0 s Z (s.Players.length : Int) (s.Players.length : Int)) = some (.inl (.L1 s Z (s.Stack.length : Int) ((0 : Nat) : Int))) := by
   show (Zl7 _ _ _ _).den = _
   dsimp only [Zl7, LT.den]
   rw [decide_eq_false (show ¬ (s.Players.length : Int) < (s.Players.length : Int) by omega), cond_false]
   rw [Zkf _ h.2.1.1, Option.bind_some, Zcs _ h.2.2.1.1, Option.bind_some, Zcs _ h.2.2.2.1.1, Option.bind_some, Zmo _ h.2.2.2.2.1.1]
   rfl
  exact (Zcw e).trans (l1 Z)
 (unfold Zyc LF.run; dsimp only [Z8h, LT.den])
 rw [Zke _ h.1.1, Option.bind_some, Option.bind_some, Zbb]
 exact l0 _
theorem Zan1 (s : Za) (h : Zw s) : Z99 s = some s := by
 have l3 : ∀ Z, Zaw Zew.step (.L3 s Z (⟨s.Players, s.Objects, s.Battlefield, s.Exile, s.Stack, s.Waiting, s.Conts.take 0, s.Turn, s.Active, s.Step, s.Begun, s.Priority, s.Passes, s.NextId, s.NextStamp, s.Seed, s.Extra, s.Over, s.Winner⟩ : Za) ((0 : Nat) : Int)) = some s := fun Z => by
  have hl : s.Conts.length * 80 ≤ 140737488351232 := h.2.2.2.2.2.2.1.1
  have r := Zop (step := Zew.step) (st := fun (i : Nat) (v : Za) => .L3 s Z v (i : Int)) s.Conts.length (fun i => (⟨s.Players, s.Objects, s.Battlefield, s.Exile, s.Stack, s.Waiting, s.Conts.take i, s.Turn, s.Active, s.Step, s.Begun, s.Priority, s.Passes, s.NextId, s.NextStamp, s.Seed, s.Extra, s.Over, s.Winner⟩ : Za)) (fun i hi => by
   have hx := List.getElem?_eq_getElem hi
   have hp := h.2.2.2.2.2.2.1.2 _ (List.getElem_mem hi)
   generalize s.Conts[i] = x at hx hp
   obtain ⟨x0, x1, x2, x3, x4, x5⟩ := x
   show (Zn9 _ _ _ _).den = _
   dsimp only [Zn9, LT.den]
   rw [decide_eq_true (show (i : Int) < (s.Conts.length : Int) by omega), cond_true, Z8 hx, Option.bind_some]
   try dsimp only
   rw [Zh7 _ hp.1.1, Option.bind_some, Zc9 hp.2.1 (by decide), Option.bind_some, Zrt hx hl (by decide), Option.bind_some, Zat hi (by omega)])
  refine Eq.trans r ?_
  have e : Zew.step (.L3 s Z (⟨s.Players, s.Objects, s.Battlefield, s.Exile, s.Stack, s.Waiting, s.Conts.take s.Conts.length, s.Turn, s.Active, s.Step, s.Begun, s.Priority, s.Passes, s.NextId, s.NextStamp, s.Seed, s.Extra, s.Over, s.Winner⟩ : Za) (s.Conts.length : Int)) = some (.inr s) := by
   show (Zn9 _ _ _ _).den = _
   dsimp only [Zn9, LT.den]
   rw [decide_eq_false (show ¬ (s.Conts.length : Int) < (s.Conts.length : Int) by omega), cond_false, List.take_length]
   rw [Zh7 _ h.2.2.2.2.2.2.2.1]
   rfl
  exact Za7 e
 have l2 : ∀ Z, Zaw Zew.step (.L2 s Z (⟨s.Players, s.Objects, s.Battlefield, s.Exile, s.Stack, s.Waiting.take 0, s.Conts, s.Turn, s.Active, s.Step, s.Begun, s.Priority, s.Passes, s.NextId, s.NextStamp, s.Seed, s.Extra, s.Over, s.Winner⟩ : Za) ((0 : Nat) : Int)) = some s := fun Z => by
  have hl : s.Waiting.length * 768 ≤ 140737488351232 := h.2.2.2.2.2.1.1
  have r := Zop (step := Zew.step) (st := fun (i : Nat) (v : Za) => .L2 s Z v (i : Int)) s.Waiting.length (fun i => (⟨s.Players, s.Objects, s.Battlefield, s.Exile, s.Stack, s.Waiting.take i, s.Conts, s.Turn, s.Active, s.Step, s.Begun, s.Priority, s.Passes, s.NextId, s.NextStamp, s.Seed, s.Extra, s.Over, s.Winner⟩ : Za)) (fun i hi => by
   have hx := List.getElem?_eq_getElem hi
   have hp := h.2.2.2.2.2.1.2 _ (List.getElem_mem hi)
   generalize s.Waiting[i] = x at hx hp
   obtain ⟨x0, x1, x2, x3⟩ := x
   show (Zn8 _ _ _ _).den = _
   dsimp only [Zn8, LT.den]
   rw [decide_eq_true (show (i : Int) < (s.Waiting.length : Int) by omega), cond_true, Z8 hx, Option.bind_some]
   try dsimp only
   rw [Z1a _ hp, Option.bind_some, Zrt hx hl (by decide), Option.bind_some, Zat hi (by omega)])
  refine Eq.trans r ?_
  have e : Zew.step (.L2 s Z (⟨s.Players, s.Objects, s.Battlefield, s.Exile, s.Stack, s.Waiting.take s.Waiting.length, s.Conts, s.Turn, s.Active, s.Step, s.Begun, s.Priority, s.Passes, s.NextId, s.NextStamp, s.Seed, s.Extra, s.Over, s.Winner⟩ : Za) (s.Waiting.length : Int)) = some (.inl (.L3 s Z (⟨s.Players, s.Objects, s.Battlefield, s.Exile, s.Stack, s.Waiting, s.Conts.take 0, s.Turn, s.Active, s.Step, s.Begun, s.Priority, s.Passes, s.NextId, s.NextStamp, s.Seed, s.Extra, s.Over, s.Winner⟩ : Za) ((0 : Nat) : Int))) := by
   show (Zn8 _ _ _ _).den = _
   dsimp only [Zn8, LT.den]
   rw [decide_eq_false (show ¬ (s.Waiting.length : Int) < (s.Waiting.length : Int) by omega), cond_false, List.take_length]
   rfl
  exact (Zcw e).trans (l3 Z)
 have l1 : ∀ Z, Zaw Zew.step (.L1 s Z (⟨s.Players, s.Objects, s.Battlefield, s.Exile, s.Stack.take 0, s.Waiting, s.Conts, s.Turn, s.Active, s.Step, s.Begun, s.Priority, s.Passes, s.NextId, s.NextStamp, s.Seed, s.Extra, s.Over, s.Winner⟩ : Za) ((0 : Nat) : Int)) = some s := fun Z => by
  have hl : s.Stack.length * 824 ≤ 140737488351232 := h.2.2.2.2.1.1
  have r := Zop (step := Zew.step) (st := fun (i : Nat) (v : Za) => .L1 s Z v (i : Int)) s.Stack.length (fun i => (⟨s.Players, s.Objects, s.Battlefield, s.Exile, s.Stack.take i, s.Waiting, s.Conts, s.Turn, s.Active, s.Step, s.Begun, s.Priority, s.Passes, s.NextId, s.NextStamp, s.Seed, s.Extra, s.Over, s.Winner⟩ : Za)) (fun i hi => by
   have hx := List.getElem?_eq_getElem hi
   have hp := h.2.2.2.2.1.2 _ (List.getElem_mem hi)
   generalize s.Stack[i] = x at hx hp
   obtain ⟨x0, x1, x2, x3, x4, x5, x6, x7, x8⟩ := x
   show (Zn7 _ _ _ _).den = _
   dsimp only [Zn7, LT.den]
   rw [decide_eq_true (show (i : Int) < (s.Stack.length : Int) by omega), cond_true, Z8 hx, Option.bind_some]
   try dsimp only
   rw [Z1a _ hp.1, Option.bind_some, Zc9 hp.2.1 (by decide), Option.bind_some, Zrt hx hl (by decide), Option.bind_some, Zat hi (by omega)])
  refine Eq.trans r ?_
  have e : Zew.step (.L1 s Z (⟨s.Players, s.Objects, s.Battlefield, s.Exile, s.Stack.take s.Stack.length, s.Waiting, s.Conts, s.Turn, s.Active, s.Step, s.Begun, s.Priority, s.Passes, s.NextId, s.NextStamp, s.Seed, s.Extra, s.Over, s.Winner⟩ : Za) (s.Stack.length : Int)) = some (.inl (.L2 s Z (⟨s.Players, s.Objects, s.Battlefield, s.Exile, s.Stack, s.Waiting.take 0, s.Conts, s.Turn, s.Active, s.Step, s.Begun, s.Priority, s.Passes, s.NextId, s.NextStamp, s.Seed, s.Extra, s.Over, s.Winner⟩ : Za) ((0 : Nat) : Int))) := by
   show (Zn7 _ _ _ _).den = _
   dsimp only [Zn7, LT.den]
   rw [decide_eq_false (show ¬ (s.Stack.length : Int) < (s.Stack.length : Int) by omega), cond_false, List.take_length]
   rfl
  exact (Zcw e).trans (l2 Z)
 have l0 : ∀ Z, Zaw Zew.step (.L0 s Z (⟨s.Players.take 0, s.Objects, s.Battlefield, s.Exile, s.Stack, s.Waiting, s.Conts, s.Turn, s.Active, s.Step, s.Begun, s.Priority, s.Passes, s.NextId, s.NextStamp, s.Seed, s.Extra, s.Over, s.Winner⟩ : Za) ((0 : Nat) : Int)) = some s := fun Z => by
  have hl : s.Players.length * 152 ≤ 140737488351232 := h.1.1
  have r := Zop (step := Zew.step) (st := fun (i : Nat) (v : Za) => .L0 s Z v (i : Int)) s.Players.length (fun i => (⟨s.Players.take i, s.Objects, s.Battlefield, s.Exile, s.Stack, s.Waiting, s.Conts, s.Turn, s.Active, s.Step, s.Begun, s.Priority, s.Passes, s.NextId, s.NextStamp, s.Seed, s.Extra, s.Over, s.Winner⟩ : Za)) (fun i hi => by
   have hx := List.getElem?_eq_getElem hi
   have hp := h.1.2 _ (List.getElem_mem hi)
   generalize s.Players[i] = x at hx hp
   obtain ⟨x0, x1, x2, x3, x4, x5, x6, x7, x8⟩ := x
   show (Zn6 _ _ _ _).den = _
   dsimp only [Zn6, LT.den]
   rw [decide_eq_true (show (i : Int) < (s.Players.length : Int) by omega), cond_true, Z8 hx, Option.bind_some]
   try dsimp only
   rw [Zh7 _ hp.1.1, Option.bind_some, Zh7 _ hp.2.1.1, Option.bind_some, Zh7 _ hp.2.2.1, Option.bind_some, Zrt hx hl (by decide), Option.bind_some, Zat hi (by omega)])
  refine Eq.trans r ?_
  have e : Zew.step (.L0 s Z (⟨s.Players.take s.Players.length, s.Objects, s.Battlefield, s.Exile, s.Stack, s.Waiting, s.Conts, s.Turn, s.Active, s.Step, s.Begun, s.Priority, s.Passes, s.NextId, s.NextStamp, s.Seed, s.Extra, s.Over, s.Winner⟩ : Za) (s.Players.length : Int)) = some (.inl (.L1 s Z (⟨s.Players, s.Objects, s.Battlefield, s.Exile, s.Stack.take 0, s.Waiting, s.Conts, s.Turn, s.Active, s.Step, s.Begun, s.Priority, s.Passes, s.NextId, s.NextStamp, s.Seed, s.Extra, s.Over, s.Winner⟩ : Za) ((0 : Nat) : Int))) := by
   show (Zn6 _ _ _ _).den = _
   dsimp only [Zn6, LT.den]
   rw [decide_eq_false (show ¬ (s.Players.length : Int) < (s.Players.length : Int) by omega), cond_false, List.take_length]
   rw [Zc9 h.2.1.1 (by decide), Option.bind_some, Zh7 _ h.2.2.1.1, Option.bind_some, Zh7 _ h.2.2.2.1.1]
   rfl
  exact (Zcw e).trans (l1 Z)
 (unfold Z99 LF.run; dsimp only [Zadi, LT.den])
 rw [Option.bind_some, Zbb]
 exact l0 _
end Go.PW
